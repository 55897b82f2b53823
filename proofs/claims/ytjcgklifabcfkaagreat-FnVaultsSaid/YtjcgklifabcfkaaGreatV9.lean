/-
  Texts that the law stands on, part 9.
-/
import Derived.Test.YtjcgklifabcfkaaGreatV1
import Derived.Test.YtjcgklifabcfkaaGreatV4
import Derived.Test.YtjcgklifabcfkaaGreatV7
import Derived.Test.YtjcgklifabcfkaaGreatV8
import Derived.Deep.Draws
import Derived.OwnWalk
import Derived.ArgAppend
set_option maxRecDepth 100000
set_option linter.unusedVariables false
set_option linter.unusedSimpArgs false
namespace Go.Proofs.YtjcgklifabcfkaaGreat
namespace Rn
open Go.Conc
def freshL:List Nat := [6,8,10,32,33,34,35,36,37,38,39,40,41,42,43,44,45,46,47,48,49,50,51,52,53,54]
def Fresh (T:Array Value):Prop:=T[2]?=some (.slice none 0 0)∧∀ i ∈ freshL,T[i]?=some undef
def Pro (P : Program) (c : Code) (Q Qr : Act → World → Prop) (a : Act) (w : World) : Prop :=
 ∀ (b : Frame) (k : List Item) (cs : List Frame),
  (∃ a' w' k0, Q a' w' ∧ Steps P (lone (b.at a (.code c :: k)) cs w) (lone (b.at a' (.code (.refuse "") :: (k0 ++ k))) cs w')) ∨
  ∃ a' w' todo, Qr a' w' ∧ Steps P (lone (b.at a (.code c :: k)) cs w) (lone { b.at a' todo with mode := .returning } cs w')
def Pro.Q2 (N R:Act→World→Prop):Exit→Act→World→Prop
 | .normal,a,w=>N a w
 | .ret,a,w=>R a w
 | _,_,_=>False
section
variable {P : Program} {Q Qr : Act → World → Prop} {a : Act} {w : World}
theorem pro_stop (h : Q a w) : Pro P (.refuse "") Q Qr a w := fun b k cs => .inl ⟨a, w, [], h, .refl _ _⟩
theorem pro_left {x y:Code} (h:Pro P x Q Qr a w):Pro P (.seq x y) Q Qr a w:=fun b k cs=>by
 rcases h b (.code y :: k) cs with ⟨a',w',k0,hq,hs⟩ | ⟨a',w',todo,hq,hs⟩
 ·exact .inl ⟨a',w',k0 ++ [.code y],hq,by rw [List.append_assoc]; exact .head step_seq hs⟩
 ·exact .inr ⟨a',w',todo,hq,.head step_seq hs⟩
theorem pro_seq {x y:Code} (h:x.wp P (Pro.Q2 (Pro P y Q Qr) Qr) a w):Pro P (.seq x y) Q Qr a w:=fun b k cs=>by
 obtain ⟨e,a1,w1,hq,harr⟩:=h b (.code y :: k) cs;cases e with
 | normal =>
  rcases hq b k cs with ⟨a',w',k0,hq,hs⟩ | ⟨a',w',todo,hq,hs⟩
  ·exact .inl ⟨a',w',k0,hq,.head step_seq (Steps.trans harr hs)⟩
  ·exact .inr ⟨a',w',todo,hq,.head step_seq (Steps.trans harr hs)⟩
 | ret =>
  obtain ⟨todo,hs⟩:=harr;exact .inr ⟨a1,w1,todo,hq,.head step_seq hs⟩
 | exit id=>exact hq.elim
 | goto l=>exact hq.elim
 | panic ch=>exact hq.elim
 | outgrown=>exact hq.elim
theorem Res.of_pro {R:Bool→Value→World→Prop} {f:FuncId} {fn:Func} {c:Code} {ts:Array Value} (hf:P.funcs[f]?=some fn)
  (h:∀ t d,Pro P c (fun a w'=>a.defers = []∧R true (.tuple #[.int .i64 f,.tuple a.tmps]) w') (fun a w'=>a.defers = []∧∃ v,(results fn a.tmps).run P w' = .ok v w'∧R false v w') ⟨ts,[]⟩ (w.tp t d)) :
  Res P R ⟨fra f ts [.code c] false,[Xb],w⟩:=fun t d=>by
 rcases h t d (base f) [] [Xb] with ⟨a',w',k0,⟨hd,hq⟩,K,hK⟩ | ⟨a',w',todo,⟨hd,v,hr,hq⟩,K,hK⟩
 ·obtain ⟨ts',ds⟩:=a'
  cases hd;exact ⟨K,true,_,w',_,hK,hq,.inr ⟨rfl,f,ts',k0 ++ [],rfl,rfl⟩⟩
 ·obtain ⟨ts',ds⟩:=a'
  cases hd;refine ⟨K,false,v,w',_,hK,hq,.inl ⟨rfl,?_⟩⟩;exact ⟨rfl,rfl,rfl,fn,hf,hr⟩
end
end Rn
namespace Rn
open Go.Conc Go.RowKit Go.Conc.Lib Go.ConcR.Gen Go.ConcN.Gen
open Go.ConcN (WgLive PayAt Has AtR0 RW AsideCell)
open Go.ConcR (KK WgAt stA smA rd wr mk Payload DC0)
noncomputable def cbody:Code:=Tryz.f87.body.getD .skip
noncomputable def cloop:Code:=match cbody with | .seq _ (.seq _ (.seq _ (.seq _ (.seq (.seq _ (.block _ (.loop c))) _))))=>c | _ => .skip
noncomputable def ctail:Code:=match cbody with | .seq _ (.seq _ (.seq _ (.seq _ (.seq _ x))))=>x | _ => .skip
noncomputable def cend:Code:=match ctail with | .seq _ x=>x | _ => .skip
theorem array55 (T:Array Value) (h:T.size=55):∃ v0 v1 v2 v3 v4 v5 v6 v7 v8 v9 v10 v11 v12 v13 v14 v15 v16 v17 v18 v19 v20 v21 v22 v23 v24 v25 v26 v27 v28 v29 v30 v31 v32 v33 v34 v35 v36 v37 v38 v39 v40 v41 v42 v43 v44 v45 v46 v47 v48 v49 v50 v51 v52 v53 v54,T = #[v0,v1,v2,v3,v4,v5,v6,v7,v8,v9,v10,v11,v12,v13,v14,v15,v16,v17,v18,v19,v20,v21,v22,v23,v24,v25,v26,v27,v28,v29,v30,v31,v32,v33,v34,v35,v36,v37,v38,v39,v40,v41,v42,v43,v44,v45,v46,v47,v48,v49,v50,v51,v52,v53,v54]:=by
 obtain ⟨l⟩:=T;simp only [List.size_toArray] at h;rcases l with _ | ⟨v0,l⟩
 ·simp at h
 rcases l with _ | ⟨v1,l⟩
 ·simp at h
 rcases l with _ | ⟨v2,l⟩
 ·simp at h
 rcases l with _ | ⟨v3,l⟩
 ·simp at h
 rcases l with _ | ⟨v4,l⟩
 ·simp at h
 rcases l with _ | ⟨v5,l⟩
 ·simp at h
 rcases l with _ | ⟨v6,l⟩
 ·simp at h
 rcases l with _ | ⟨v7,l⟩
 ·simp at h
 rcases l with _ | ⟨v8,l⟩
 ·simp at h
 rcases l with _ | ⟨v9,l⟩
 ·simp at h
 rcases l with _ | ⟨v10,l⟩
 ·simp at h
 rcases l with _ | ⟨v11,l⟩
 ·simp at h
 rcases l with _ | ⟨v12,l⟩
 ·simp at h
 rcases l with _ | ⟨v13,l⟩
 ·simp at h
 rcases l with _ | ⟨v14,l⟩
 ·simp at h
 rcases l with _ | ⟨v15,l⟩
 ·simp at h
 rcases l with _ | ⟨v16,l⟩
 ·simp at h
 rcases l with _ | ⟨v17,l⟩
 ·simp at h
 rcases l with _ | ⟨v18,l⟩
 ·simp at h
 rcases l with _ | ⟨v19,l⟩
 ·simp at h
 rcases l with _ | ⟨v20,l⟩
 ·simp at h
 rcases l with _ | ⟨v21,l⟩
 ·simp at h
 rcases l with _ | ⟨v22,l⟩
 ·simp at h
 rcases l with _ | ⟨v23,l⟩
 ·simp at h
 rcases l with _ | ⟨v24,l⟩
 ·simp at h
 rcases l with _ | ⟨v25,l⟩
 ·simp at h
 rcases l with _ | ⟨v26,l⟩
 ·simp at h
 rcases l with _ | ⟨v27,l⟩
 ·simp at h
 rcases l with _ | ⟨v28,l⟩
 ·simp at h
 rcases l with _ | ⟨v29,l⟩
 ·simp at h
 rcases l with _ | ⟨v30,l⟩
 ·simp at h
 rcases l with _ | ⟨v31,l⟩
 ·simp at h
 rcases l with _ | ⟨v32,l⟩
 ·simp at h
 rcases l with _ | ⟨v33,l⟩
 ·simp at h
 rcases l with _ | ⟨v34,l⟩
 ·simp at h
 rcases l with _ | ⟨v35,l⟩
 ·simp at h
 rcases l with _ | ⟨v36,l⟩
 ·simp at h
 rcases l with _ | ⟨v37,l⟩
 ·simp at h
 rcases l with _ | ⟨v38,l⟩
 ·simp at h
 rcases l with _ | ⟨v39,l⟩
 ·simp at h
 rcases l with _ | ⟨v40,l⟩
 ·simp at h
 rcases l with _ | ⟨v41,l⟩
 ·simp at h
 rcases l with _ | ⟨v42,l⟩
 ·simp at h
 rcases l with _ | ⟨v43,l⟩
 ·simp at h
 rcases l with _ | ⟨v44,l⟩
 ·simp at h
 rcases l with _ | ⟨v45,l⟩
 ·simp at h
 rcases l with _ | ⟨v46,l⟩
 ·simp at h
 rcases l with _ | ⟨v47,l⟩
 ·simp at h
 rcases l with _ | ⟨v48,l⟩
 ·simp at h
 rcases l with _ | ⟨v49,l⟩
 ·simp at h
 rcases l with _ | ⟨v50,l⟩
 ·simp at h
 rcases l with _ | ⟨v51,l⟩
 ·simp at h
 rcases l with _ | ⟨v52,l⟩
 ·simp at h
 rcases l with _ | ⟨v53,l⟩
 ·simp at h
 rcases l with _ | ⟨v54,l⟩
 ·simp at h
 rcases l with _ | ⟨x,l⟩
 ·exact ⟨v0,v1,v2,v3,v4,v5,v6,v7,v8,v9,v10,v11,v12,v13,v14,v15,v16,v17,v18,v19,v20,v21,v22,v23,v24,v25,v26,v27,v28,v29,v30,v31,v32,v33,v34,v35,v36,v37,v38,v39,v40,v41,v42,v43,v44,v45,v46,v47,v48,v49,v50,v51,v52,v53,v54,rfl⟩
 ·simp at h
structure TC (T:Array Value) (rb fb wg n:Nat):Prop where
 size:T.size=55
 s1:T[1]?=some (.pointer (some ⟨rb,0,none⟩))
 s3:T[3]?=some (.pointer (some ⟨fb,0,none⟩))
 s4:T[4]?=some (.pointer (some ⟨wg,0,none⟩))
 fresh:Fresh T
structure FC (Q:Ph) (n c:Nat) (xs:List Int) (rb fb blk off:Nat) (w:World):Prop where
 b0:Q.B0≤w.heap.size
 rbx:w.cell? ⟨rb,0,none⟩=some (.slice (some ⟨blk,off,none⟩) n c)
 fbx:w.cell? ⟨fb,0,none⟩=some (.slice (some ⟨Q.C,0,none⟩) n n)
 rows:∀ k,k<4*n→w.cell? ⟨blk,off+k,none⟩=some (.int .i64 (nth xs k))
structure GC (Q:Ph) (rb fb blk:Nat):Prop where
 rb:St0 Q rb∧¬ Q.SB rb
 fb:St0 Q fb∧¬ Q.SB fb
 blk:St0 Q blk∧¬ Q.SB blk
section
variable {Q : Ph} {n c : Nat} {xs : List Int} {rb fb blk off : Nat}
theorem FC.keeps (g:GC Q rb fb blk) (own:Bl):Keeps Q own (FC Q n c xs rb fb blk off):=fun w w' s h=>by
 have hb0:=h.b0;have k:∀ b,St0 Q b→w'.heap[b]?=w.heap[b]?:=fun b hb=>s.block b (by have:=hb.1; omega) (.inr hb)
 exact ⟨Nat.le_trans h.b0 s.size,(cell_blk (k _ g.rb.1) 0).trans h.rbx,(cell_blk (k _ g.fb.1) 0).trans h.fbx,fun j hj=>(cell_blk (k _ g.blk.1) _).trans (h.rows j hj)⟩
structure FX (Q:Ph) (n c:Nat) (xs:List Int) (rb fb blk off x:Nat) (v:Value) (w:World):Prop where
 fc:FC Q n c xs rb fb blk off w
 lt:x<w.heap.size
 ge:Q.B0≤x
 obj:w.heap[x]?=some (.cells #[v] 3)
theorem FX.keeps {x:Nat} {v:Value} (g:GC Q rb fb blk):Keeps Q (fun b=>b=x) (FX Q n c xs rb fb blk off x v):=fun w w' s h =>
 ⟨FC.keeps g _ w w' s h.fc,Nat.lt_of_lt_of_le h.lt s.size,h.ge,(s.block x h.lt (.inl rfl)).trans h.obj⟩
theorem FX.cell {x:Nat} {v:Value} {w:World} (h:FX Q n c xs rb fb blk off x v w):w.cell? ⟨x,0,none⟩=some v:=by simp [World.cell?,h.obj]
theorem FX.thaw {x:Nat} {v:Value} {w:World} (h:FX Q n c xs rb fb blk off x v w):w.frozen? ⟨x,0,none⟩=false:=by simp [World.frozen?,h.obj]
theorem nextG {P:Program} {main:Bool} {R:Bl→World→World→Prop} {D:Bl→World→World→Array Event→Prop} {Stop:Bl→Goroutine→World→Prop} {own:Bl} {g:Goroutine} {w:World} (hg:g.status = .running)
  (h:∀ w1,R own w w1→(stepG P main g w1).goes fun g' w' es=>D own w1 w' es∧WayG P main R D Stop (Plus own w1 w') g' w'):WayG P main R D Stop own g w :=
 .next hg fun w1 h1=>by
  obtain ⟨g',w',es,e,d,k⟩:=goes_elim (h w1 h1);exact ⟨g',w',es,e,d,k⟩
theorem SW.mono {K K':Bl→Goroutine→World→Prop} (hk:∀ o g w,K o g w→K' o g w) {own:Bl} {g:Goroutine} {w:World} (h:SW Q K own g w):SW Q K' own g w :=
 WayG.bind' (fun _ _ _ x=>x) (fun _ _ _ _ x=>x) (fun o g w x => .stop fun w1 h1=>hk _ _ _ (x w1 h1)) h
theorem SKd.mono {K K':Bl→Goroutine→World→Prop} (hk:∀ o g w,K o g w→K' o g w) {own:Bl} {g:Goroutine} {w:World} (h:SKd Q K own g w):SKd Q K' own g w:=by
 obtain ⟨h1,g',h2,h3⟩:=h;exact ⟨h1,g',h2,h3.mono hk⟩
theorem SW2.mono {K K' Out:Bl→Goroutine→World→Prop} (hk:∀ o g w,K o g w→K' o g w) {vs:Nat} {own:Bl} {g:Goroutine} {w:World} (h:SW2 Q K Out vs own g w):SW2 Q K' Out vs own g w :=
 ⟨h.1,fun v hv hw=>⟨(h.2 v hv hw).1,fun e=>by
  obtain ⟨g',h2,h3⟩:=(h.2 v hv hw).2 e;exact ⟨g',h2,h3.mono hk⟩⟩⟩
theorem SW1.mono {K K' Out:Bl→Goroutine→World→Prop} (hk:∀ o g w,K o g w→K' o g w) {own:Bl} {g:Goroutine} {w:World} (h:SW1 Q K Out own g w):SW1 Q K' Out own g w :=
 ⟨h.1,fun v hv hw=>by
  obtain ⟨g',h1,h2,h3⟩:=h.2 v hv hw;exact ⟨g',h1,h2,fun e=>(h3 e).mono fun _ _ _ x=>x.mono hk⟩⟩
theorem none_own (x:Nat):(fun b:Nat=>b=x∧b ≠ x)=(fun _=>False):=by
 funext b
 simp
def AnchC (Q:Ph) (n c:Nat) (xs:List Int) (rb fb blk off:Nat) (cs:List Frame) (o:Bl) (g:Goroutine) (w:World):Prop :=
 ∃ T ops,TC T rb fb Q.Wg n∧ctail = .seq (.region 11 ops false) cend∧Anch wgLink Q (FC Q n c xs rb fb blk off) (fun _=>False) ((base 87).at ⟨T,[]⟩ [.inRegion ops [0],.code cend]) cs o g w
def ZC (Q:Ph) (n c:Nat) (xs:List Int) (rb fb blk off:Nat) (cs:List Frame) (g:Goroutine) (w:World):Prop :=
 ∃ T,TC T rb fb Q.Wg n∧g=G ((base 87).at ⟨T,[]⟩ [.code cend]) cs∧FC Q n c xs rb fb blk off w
def OutC (Q:Ph) (n c:Nat) (xs:List Int) (rb fb blk off:Nat) (cs:List Frame) (o:Bl) (g:Goroutine) (w:World):Prop :=
 o=(fun _=>False)∧Goes Q.P true (RelyS Q (fun _=>False)) DC0 (ZC Q n c xs rb fb blk off cs) (2+30) g w
theorem ctail_eq:∃ o,ctail = .seq (.region 11 #[o] false) cend∧o.dst=some 31∧o.op = .call { callee := .value (.func 109),args := #[.tmp 4],argTypes := #[158] }∧o.guard=none:=by
 refine ⟨_,rfl,rfl,rfl,rfl⟩
section
variable {P : Program} {own : Bl} {K : Bl → Goroutine → World → Prop} {w : World}
theorem sw_goesP (hP:Q.P=P) {n:Nat} {g:Goroutine} (h:Goes P true (RelyS Q own) DC0 (fun g w=>SW Q K own g w) n g w):SW Q K own g w:=by
 subst hP;exact sw_goes h
theorem nextS (hP:Q.P=P) {g:Goroutine} (hg:g.status = .running) (h:∀ w1,RelyS Q own w w1→∃ g' w' es,stepG P true g w1 = .go g' w' es∧DidS Q own w1 w' es∧SW Q K (Plus own w1 w') g' w'):SW Q K own g w:=by
 subst hP;exact WayG.next hg h
theorem nextGS (hP:Q.P=P) {g:Goroutine} (hg:g.status = .running) (h:∀ w1,RelyS Q own w w1→(stepG P true g w1).goes fun g' w' es=>DidS Q own w1 w' es∧SW Q K (Plus own w1 w') g' w'):SW Q K own g w:=by
 subst hP;exact nextG hg h
theorem callS (hP : Q.P = P) {b : Frame} {a : Act} {k : List Item} {cs : List Frame} {ops : Array Oper} {i : Nat} {rest : List Nat} {o : Oper} {f : FuncId} {fn : Func} {c : Code} {args : Array Operand} {ats : Array TypeId} {xs : Array Value}
  (ho : ops[i]? = some o) (hw : Region.wanted o (yielded ops a.tmps) = true) (hk : b.kind ≠ .early) (hop : o.op = .call { callee := .value (.func f), args, argTypes := ats })
  (hf : P.funcs[f]? = some fn) (hname : (fn.name == "runtime.NumGoroutine") = false) (hb : fn.body = some c) (hx : args.map a.eval = xs)
  (h : ∀ w1, RelyS Q own w w1 → SW Q K own (G (Frame.enter P f xs .normal) (b.at a (.inRegion ops (i :: rest) :: k) :: cs)) w1) : SW Q K own (G (b.at a (.inRegion ops (i :: rest) :: k)) cs) w :=
 nextS hP rfl fun w1 h1 => ⟨_, _, _, stepG_callE ho hw hk hop hf hname hb hx, DidS.quiet Q own w1, by rw [Plus.same rfl]; exact h w1 h1⟩
theorem addE {F:World→Prop} {b₀:Frame} {a₀:Act} {ops₀:Array Oper} {i₀:Nat} {rest₀:List Nat} {k₀:List Item} {cs:List Frame} (H:WgLib Q.P wgLink) (hF2:Keeps Q own F) (ho:¬ own Q.Wg)
  (hT:∀ w,F w→WgLive Q.ty Q.Wg w→SW Q K own (G (b₀.at (a₀.put ((ops₀[i₀]?).bind (·.dst)) (.tuple #[])) (.inRegion ops₀ rest₀ :: k₀)) cs) w) (hF:F w∧WgLive Q.ty Q.Wg w) :
  SW Q (Ev1 Q #[mk .disable] (SA1 Q (Ev1 Q #[mk .enable] K))) own (G (Frame.enter Q.P 105 #[.pointer (some ⟨Q.Wg,0,none⟩),.int .i64 1] .normal) (b₀.at a₀ (.inRegion ops₀ (i₀ :: rest₀) :: k₀) :: cs)) w:=by
 rw [enter_at (P:=Q.P) (f:=105) _ H.f_add rfl];exact addS H hF2 ho hT w hF
theorem waitE {F:World→Prop} {b₀:Frame} {a₀:Act} {ops₀:Array Oper} {i₀:Nat} {rest₀:List Nat} {k₀:List Item} {cs:List Frame} (H:WgLib Q.P wgLink) (hF2:Keeps Q own F) (hF:F w∧WgLive Q.ty Q.Wg w) :
  SW Q (SKd Q (Anch wgLink Q F own (b₀.at a₀ (.inRegion ops₀ (i₀ :: rest₀) :: k₀)) cs)) own (G (Frame.enter Q.P 109 #[.pointer (some ⟨Q.Wg,0,none⟩)] .normal) (b₀.at a₀ (.inRegion ops₀ (i₀ :: rest₀) :: k₀) :: cs)) w:=by
 rw [enter_at (P:=Q.P) (f:=109) _ H.f_wait rfl];exact waitS H hF2 w hF
end
theorem fc_rely (gc:GC Q rb fb blk) {own:Bl} {w w1:World} (h:FC Q n c xs rb fb blk off w∧WgLive Q.ty Q.Wg w) (r:RelyS Q own w w1):FC Q n c xs rb fb blk off w1∧WgLive Q.ty Q.Wg w1:=fs_rely (FC.keeps gc own) h r
theorem fx_rely (gc:GC Q rb fb blk) {x:Nat} {v:Value} {w w1:World} (h:FX Q n c xs rb fb blk off x v w∧WgLive Q.ty Q.Wg w) (r:RelyS Q (fun b=>b=x) w w1):FX Q n c xs rb fb blk off x v w1∧WgLive Q.ty Q.Wg w1:=fs_rely (FX.keeps gc) h r
theorem plus_alloc (w:World) (o:Obj):Plus (fun _=>False) w (w.alloc o)=fun b=>b=w.heap.size:=by
 funext b
 simp only [Plus,Made,World.size_alloc,false_or,eq_iff_iff];omega
theorem fx_alloc {w:World} (gc:GC Q rb fb blk) (gq:Geo Q) (h:FC Q n c xs rb fb blk off w∧WgLive Q.ty Q.Wg w):FX Q n c xs rb fb blk off w.heap.size (.int .i64 0) (w.alloc (.cells #[.int .i64 0] 3))∧WgLive Q.ty Q.Wg (w.alloc (.cells #[.int .i64 0] 3)):=by
 have hs:Stays (fun b=>(fun _=>False) b ∨ St0 Q b) w (w.alloc (.cells #[.int .i64 0] 3)):=⟨rfl,rfl,rfl,by simp,fun b hb _=>by show (w.heap.push _)[b]?=_; rw [Array.getElem?_push,if_neg (by omega)]⟩;refine ⟨⟨FC.keeps gc _ _ _ hs h.1,by simp,h.1.b0,by show (w.heap.push _)[w.heap.size]?=_; simp⟩,?_⟩
 obtain ⟨st,sm,hl⟩:=h.2;have hlt:=(Array.getElem?_eq_some_iff.1 hl).1;refine ⟨st,sm,?_⟩;show (w.heap.push _)[Q.Wg]?=_
 rw [Array.getElem?_push,if_neg (by omega)];exact hl
theorem fx_store {w:World} {x:Nat} {v v':Value} (gq:Geo Q) (h:FX Q n c xs rb fb blk off x v w∧WgLive Q.ty Q.Wg w) (gc:GC Q rb fb blk):FX Q n c xs rb fb blk off x v' (w.setCell ⟨x,0,none⟩ v')∧WgLive Q.ty Q.Wg (w.setCell ⟨x,0,none⟩ v'):=by
 have hA:=aside_setCell w ⟨x,0,none⟩ v';have hge:=h.1.ge;have hs:Stays (fun b=>(fun _=>False) b ∨ St0 Q b) w (w.setCell ⟨x,0,none⟩ v'):=⟨hA.tape,hA.os,hA.output,Nat.le_of_eq hA.size.symm,fun b hb hk=>hA.block b (by rintro rfl; have:=(hk.resolve_left id).1; omega)⟩
 refine ⟨⟨FC.keeps gc _ _ _ hs h.1.fc,by rw [hA.size]; exact h.1.lt,hge,?_⟩,?_⟩
 ·rw [setCell_get]
  simp [h.1.obj,putO]
 ·obtain ⟨st,sm,hl⟩:=h.2
  exact ⟨st,sm,(hA.block _ (by have:=gq.wg; simp only; omega)).trans hl⟩
theorem spawns_goes {P:Program} {own:Bl} {w:World} (hP:Q.P=P) {A:Bl→Goroutine→World→Prop} {r m:Nat} {g:Goroutine} (h:Goes P true (RelyS Q own) DC0 (fun g w=>Spawns Q A r own g w) m g w):Spawns Q A r own g w:=by
 cases r with
 | zero=>exact sw_goesP hP h
 | succ r=>exact sw_goesP hP h
theorem wk_start {w:World} {x k:Nat} (gq:Geo Q) (gc:GC Q rb fb blk) (hX:FX Q n c xs rb fb blk off x (.int .i64 k) w) (hl:WgLive Q.ty Q.Wg w) (hp:PayAt Q.C Q.n w):WK Q (RoX Q x) n c xs rb x fb blk off k (fun _=>False) w where
 dis b hb:=by
  have hb0:=hX.fc.b0;refine ⟨?_,id⟩;rcases hb with (⟨h1,_⟩ | rfl) | rfl | rfl
  ·omega
  ·exact hX.lt
  ·have:=gq.wg; omega
  ·have:=gq.c; omega
 roC b hb:=by
  rcases hb with ⟨_,_,h3,_⟩ | rfl
  ·exact h3
  ·have:=hX.ge; have:=gq.c; omega
 ne:=Ne.symm gq.ne
 rrb := .inl ⟨gc.rb.1.1,gc.rb.1.2.1,gc.rb.1.2.2,gc.rb.2⟩
 rib := .inr rfl
 rfb := .inl ⟨gc.fb.1.1,gc.fb.1.2.1,gc.fb.1.2.2,gc.fb.2⟩
 rblk := .inl ⟨gc.blk.1.1,gc.blk.1.2.1,gc.blk.1.2.2,gc.blk.2⟩
 live:=hl
 pay:=hp
 rbx:=hX.fc.rbx
 ibx:=hX.cell
 fbx:=hX.fc.fbx
 rows:=hX.fc.rows
set_option maxHeartbeats 8000000 in
theorem spawnsC {zs:Nat→List Int} {noT:TypeId} (hno:Tryz.prog.toTables.info? noT=none) (gq:Geo Q) (gc:GC Q rb fb blk) (hP:Q.P=Tryz.prog) (hty:Q.ty=wgLink.tWg) (hfin:Q.fin=FinT zs) (hn:Q.n=n) (hG:Tryz.prog.globals.size≤Q.Wg) (hn20:n≤20)
  (hlone:∀ i,i<n→∀ w t d,Calls Tryz.prog 108 #[.slice (some ⟨Tryz.prog.globals.size,0,none⟩) n c,.int .i64 i] ((winW w n xs noT).tp t d) fun e w'=>∃ v,e = .returned v∧∃ A m c',v = .slice A m c'∧m*4=(zs i).length∧((m=0∧A=none) ∨ 0<m∧∃ b off,A=some ⟨b,off,none⟩∧b ≠ Tryz.prog.globals.size∧∀ k,k<4*m→w'.cell? ⟨b,off+k,none⟩=some (.int .i64 (nth (zs i) k))))
  (cs:List Frame):∀ (r k:Nat),k+r=n→∀ (T:Array Value) (w:World),TC T rb fb Q.Wg n→T[24]?=some (.int .i64 n)→T[25]?=some (.int .i64 k)→FC Q n c xs rb fb blk off w∧WgLive Q.ty Q.Wg w →
   Spawns Q (AnchC Q n c xs rb fb blk off cs) r (fun _=>False) (G ((base 87).at ⟨T,[]⟩ [.code cloop,.inLoop cloop,.inBlock 0,.code ctail]) cs) w:=by
 have hL:WgLib Q.P wgLink:=by rw [hP]; exact wgLib
 intro r;induction r with
 | zero =>
  intro k hk T w hT h24 h25 hF;obtain ⟨v0,v1,v2,v3,v4,v5,v6,v7,v8,v9,v10,v11,v12,v13,v14,v15,v16,v17,v18,v19,v20,v21,v22,v23,v24,v25,v26,v27,v28,v29,v30,v31,v32,v33,v34,v35,v36,v37,v38,v39,v40,v41,v42,v43,v44,v45,v46,v47,v48,v49,v50,v51,v52,v53,v54,rfl⟩:=array55 T hT.size;have hfr:=hT.fresh;simp [Fresh,freshL] at hfr;obtain ⟨rfl,rfl,rfl,rfl,rfl,rfl,rfl,rfl,rfl,rfl,rfl,rfl,rfl,rfl,rfl,rfl,rfl,rfl,rfl,rfl,rfl,rfl,rfl,rfl,rfl,rfl,rfl⟩:=hfr;have t1:=hT.s1;have t3:=hT.s3;have t4:=hT.s4;simp at t1 t3 t4 h24 h25;subst t1; subst t3; subst t4; subst h24; subst h25;obtain rfl:k=n:=by omega
  have e26:decide ((k:Int)<(k:Int))=false:=by simp
  unfold Spawns;refine sw_goesP hP (n:=12) ?_;simp only [cloop,ctail,cend,cbody,Tryz.f87,Option.getD_some];u_c stepG_seq (fc_rely gc) hF
  u_reg (fc_rely gc) hF
  u_op (fc_rely gc) hF
  u_c stepG_region_end (fc_rely gc) hF
  u_c stepG_seq (fc_rely gc) hF
  u_cnd false (fc_rely gc) hF
  u_exit (fc_rely gc) hF
  u_c stepG_seq (fc_rely gc) hF
  u_reg (fc_rely gc) hF
  refine Goes.stop fun w1 h1 => ?_
  replace hF:=fc_rely gc hF h1
  refine callS hP rfl rfl (by k_ne) rfl Tryz.func109 (nm_wait wgLink) rfl (xs := #[.pointer (some ⟨Q.Wg,0,none⟩)]) (by simp [Act.eval]) fun w2 h2 => ?_
  replace hF:=fc_rely gc hF h2
  rw [← hP];exact (waitE hL (FC.keeps gc _) hF).mono fun o g w x=>x.mono fun o g w y=>⟨_,_,⟨rfl,rfl,rfl,rfl,⟨rfl,List.forall_mem_cons.2 ⟨rfl,List.forall_mem_cons.2 ⟨rfl,List.forall_mem_cons.2 ⟨rfl,List.forall_mem_cons.2 ⟨rfl,List.forall_mem_cons.2 ⟨rfl,List.forall_mem_cons.2 ⟨rfl,List.forall_mem_cons.2 ⟨rfl,List.forall_mem_cons.2 ⟨rfl,List.forall_mem_cons.2 ⟨rfl,List.forall_mem_cons.2 ⟨rfl,List.forall_mem_cons.2 ⟨rfl,List.forall_mem_cons.2 ⟨rfl,List.forall_mem_cons.2 ⟨rfl,List.forall_mem_cons.2 ⟨rfl,List.forall_mem_cons.2 ⟨rfl,List.forall_mem_cons.2 ⟨rfl,List.forall_mem_cons.2 ⟨rfl,List.forall_mem_cons.2 ⟨rfl,List.forall_mem_cons.2 ⟨rfl,List.forall_mem_cons.2 ⟨rfl,List.forall_mem_cons.2 ⟨rfl,List.forall_mem_cons.2 ⟨rfl,List.forall_mem_cons.2 ⟨rfl,List.forall_mem_cons.2 ⟨rfl,List.forall_mem_cons.2 ⟨rfl,List.forall_mem_cons.2 ⟨rfl,List.forall_mem_nil _⟩⟩⟩⟩⟩⟩⟩⟩⟩⟩⟩⟩⟩⟩⟩⟩⟩⟩⟩⟩⟩⟩⟩⟩⟩⟩⟩⟩,rfl,y⟩
 | succ r ih =>
  intro k hk T w hT h24 h25 hF;obtain ⟨v0,v1,v2,v3,v4,v5,v6,v7,v8,v9,v10,v11,v12,v13,v14,v15,v16,v17,v18,v19,v20,v21,v22,v23,v24,v25,v26,v27,v28,v29,v30,v31,v32,v33,v34,v35,v36,v37,v38,v39,v40,v41,v42,v43,v44,v45,v46,v47,v48,v49,v50,v51,v52,v53,v54,rfl⟩:=array55 T hT.size;have hfr:=hT.fresh;simp [Fresh,freshL] at hfr;obtain ⟨rfl,rfl,rfl,rfl,rfl,rfl,rfl,rfl,rfl,rfl,rfl,rfl,rfl,rfl,rfl,rfl,rfl,rfl,rfl,rfl,rfl,rfl,rfl,rfl,rfl,rfl,rfl⟩:=hfr;have t1:=hT.s1;have t3:=hT.s3;have t4:=hT.s4;simp at t1 t3 t4 h24 h25;subst t1; subst t3; subst t4; subst h24; subst h25;have hkn:(k:Int)<(n:Int):=by omega
  unfold Spawns;refine sw_goesP hP (n:=12) ?_;simp only [cloop,ctail,cend,cbody,Tryz.f87,Option.getD_some];u_c stepG_seq (fc_rely gc) hF
  u_reg (fc_rely gc) hF
  u_op (fc_rely gc) hF
  u_c stepG_region_end (fc_rely gc) hF
  u_c stepG_seq (fc_rely gc) hF
  u_cnd true (fc_rely gc) hF
  u_c stepG_skip (fc_rely gc) hF
  u_c stepG_seq (fc_rely gc) hF
  u_c stepG_block (fc_rely gc) hF
  u_c stepG_seq (fc_rely gc) hF
  u_reg (fc_rely gc) hF
  u_op (fc_rely gc) hF
  refine Goes.stop fun w1 h1 => ?_
  replace hF:=fc_rely gc hF h1
  refine nextGS hP rfl fun w2 h2 => ?_
  replace hF:=fc_rely gc hF h2
  refine goes_oper_k rfl rfl (by k_ne) (fun K hK => ?_);go_simp
  refine hK _ _ ⟨⟨rfl,rfl,rfl,by simp,fun b hb _=>by show (w2.heap.push _)[b]?=_; rw [Array.getElem?_push,if_neg (by omega)],fun e he=>by have hm:=mem_listed he; simp [go_sem, *] at hm⟩,?_⟩;clear hK K;rw [plus_alloc];have hX:=fx_alloc gc gq hF;clear hF;try walk_nrm
  generalize w2.alloc (.cells #[.int .i64 0] 3)=w3 at hX ⊢;generalize w2.heap.size=x at hX ⊢;refine nextGS hP rfl fun w4 h4 => ?_
  replace hX:=fx_rely gc hX h4
  refine goes_oper_k rfl rfl (by k_ne) (fun K hK => ?_);have hc1:=hX.1.cell;have hc2:=hX.1.thaw;go_simp
  have hA:=aside_setCell w4 ⟨x,0,none⟩ (.int .i64 k);refine hK _ _ ⟨⟨hA.tape,hA.os,hA.output,Nat.le_of_eq hA.size.symm,fun b hb ho=>hA.block b ho,fun e he => ?_⟩,?_⟩
  ·have hm:=mem_listed he
   simp [go_sem,storedEv, *] at hm;subst hm;refine ⟨fun y hy => ?_,by simp,by simp,by simp⟩;simp [MemAct.ofEvent,MemAct.touch?] at hy;subst hy;exact .inr ⟨x,rfl,.inl (.inl rfl)⟩
  clear hK K hc1 hc2;rw [Plus.same hA.size];replace hX:=fx_store (v' := .int .i64 k) gq hX gc
  try walk_nrm
  refine sw_goesP hP (n:=3) ?_;u_c stepG_region_end (fx_rely gc) hX
  u_c stepG_seq (fx_rely gc) hX
  u_reg (fx_rely gc) hX
  refine Goes.stop fun w1 h1 => ?_
  replace hX:=fx_rely gc hX h1
  refine callS hP rfl rfl (by k_ne) rfl Tryz.func105 (nm_add wgLink) rfl (xs := #[.pointer (some ⟨Q.Wg,0,none⟩),.int .i64 1]) (by simp [Act.eval]) fun w2 h2 => ?_
  replace hX:=fx_rely gc hX h2
  rw [← hP];refine addE hL (FX.keeps gc) (by have:=hX.1.ge; have:=gq.wg; omega) (fun w hx hl => ?_) hX
  replace hX:=And.intro hx hl
  clear hx hl;try walk_nrm
  refine sw_goesP hP (n:=4) ?_;u_c stepG_region_end (fx_rely gc) hX
  u_reg (fx_rely gc) hX
  u_op (fx_rely gc) hX
  refine Goes.stop fun w1 h1=>WayG.stop fun w2 h2 => ?_
  replace hX:=fx_rely gc (fx_rely gc hX h1) h2
  rw [show Q.n - (r+1)=k by omega];refine ⟨rfl,?_⟩;rw [hP,stepG_spawn (d:=wcall Q.Wg rb x fb) (w':=w2) (f := .func 106) (c := #[.pointer (some ⟨Q.Wg,0,none⟩),.pointer (some ⟨rb,0,none⟩),.pointer (some ⟨x,0,none⟩),.pointer (some ⟨fb,0,none⟩)]) rfl rfl (by k_ne) (by simp [go_sem,wcall,Deferred.ofValue]) rfl];generalize hLx:listed _ _ _ _ _=Lx;have hL0:Lx = #[]:=by
   rw [← hLx];simp [listed,go_sem,seen,Deferred.ofValue];rfl
  subst hL0;clear hLx;refine ⟨_,_,x,rfl,rfl,fun hpay hlive=>worker_way hno hP hty hfin hn (by omega) (hlone k (by omega)) (wk_start gq gc hX.1 hlive hpay) hG,?next⟩
  case next =>
   have hF:FC Q n c xs rb fb blk off w2∧WgLive Q.ty Q.Wg w2:=⟨hX.1.fc,hX.2⟩;rw [none_own];try walk_nrm
   refine spawns_goes hP (m:=12) ?_;u_c stepG_region_end (fc_rely gc) hF
   u_c stepG_inBlock (fc_rely gc) hF
   u_reg (fc_rely gc) hF
   u_op (fc_rely gc) hF
   u_op (fc_rely gc) hF
   u_c stepG_region_end (fc_rely gc) hF
   u_c stepG_inLoop (fc_rely gc) hF
   refine Goes.stop fun w3 h3 => ?_
   replace hF:=fc_rely gc hF h3
   refine ih (k+1) (by omega) _ w3 ⟨rfl,rfl,rfl,rfl,⟨rfl,List.forall_mem_cons.2 ⟨rfl,List.forall_mem_cons.2 ⟨rfl,List.forall_mem_cons.2 ⟨rfl,List.forall_mem_cons.2 ⟨rfl,List.forall_mem_cons.2 ⟨rfl,List.forall_mem_cons.2 ⟨rfl,List.forall_mem_cons.2 ⟨rfl,List.forall_mem_cons.2 ⟨rfl,List.forall_mem_cons.2 ⟨rfl,List.forall_mem_cons.2 ⟨rfl,List.forall_mem_cons.2 ⟨rfl,List.forall_mem_cons.2 ⟨rfl,List.forall_mem_cons.2 ⟨rfl,List.forall_mem_cons.2 ⟨rfl,List.forall_mem_cons.2 ⟨rfl,List.forall_mem_cons.2 ⟨rfl,List.forall_mem_cons.2 ⟨rfl,List.forall_mem_cons.2 ⟨rfl,List.forall_mem_cons.2 ⟨rfl,List.forall_mem_cons.2 ⟨rfl,List.forall_mem_cons.2 ⟨rfl,List.forall_mem_cons.2 ⟨rfl,List.forall_mem_cons.2 ⟨rfl,List.forall_mem_cons.2 ⟨rfl,List.forall_mem_cons.2 ⟨rfl,List.forall_mem_cons.2 ⟨rfl,List.forall_mem_nil _⟩⟩⟩⟩⟩⟩⟩⟩⟩⟩⟩⟩⟩⟩⟩⟩⟩⟩⟩⟩⟩⟩⟩⟩⟩⟩⟩⟩ rfl ?_ hF;have hwr:IntKind.i64.wrap ((k:Int)+1)=(k:Int)+1:=by simp [IntKind.wrap,IntKind.min,IntKind.max,IntKind.signed,IntKind.bits] <;> omega
   simp [hwr]
theorem anchC_way (gq:Geo Q) (gc:GC Q rb fb blk) (hP:Q.P=Tryz.prog) (cs:List Frame) (o:Bl) (g:Goroutine) (w:World) (h:AnchC Q n c xs rb fb blk off cs o g w):SW Q (SW1 Q (AnchC Q n c xs rb fb blk off cs) (OutC Q n c xs rb fb blk off cs)) o g w:=by
 have hL:WgLib Q.P wgLink:=by rw [hP]; exact wgLib
 obtain ⟨T,ops,hT,heq,h⟩:=h;obtain ⟨op,e,hd,_⟩:=ctail_eq;rw [e] at heq;simp only [Code.seq.injEq,Code.region.injEq,true_and,and_true] at heq;subst heq;refine (waitR (Z:=ZC Q n c xs rb fb blk off cs) (mT:=2) hL (FC.keeps gc _) (fun x=>x) (fun w hx hl => ?_) o g w h).mono fun o g w x=>x.mono fun o g w y=>⟨T,_,hT,e,y⟩
 have hF:=And.intro hx hl;refine Goes.step rfl fun w1 h1 => ?_
 replace hF:=fc_rely gc hF h1
 rw [stepG_region_end];simp only [goes_go];have hd':((#[op]:Array Oper)[0]?).bind (·.dst)=some 31:=hd;rw [hd'];refine ⟨⟨rfl,rfl⟩,Goes.stop fun w2 h2=>⟨T.setIfInBounds 31 (.tuple #[]),?_,rfl,(fc_rely gc hF h2).1⟩⟩;exact ⟨by simp [hT.size],by simp [hT.s1],by simp [hT.s3],by simp [hT.s4],by simp [hT.fresh.1],fun i hi=>by rw [Array.getElem?_setIfInBounds_ne (by rintro rfl; revert hi; decide)]; exact hT.fresh.2 i hi⟩
theorem outC_run (cs:List Frame) (o:Bl) (g:Goroutine) (w:World) (h:OutC Q n c xs rb fb blk off cs o g w):g.status = .running :=
 Goes.running (fun _ _ ⟨_,_,e,_⟩=>by rw [e]; rfl) w (RelyS.refl Q _ w) h.2
theorem anchC_run (cs:List Frame) (o:Bl) (g:Goroutine) (w:World) (h:AnchC Q n c xs rb fb blk off cs o g w):g.status = .running:=by
 obtain ⟨_,_,_,_,h⟩:=h;exact Anch.running _ _ _ h
end
end Rn
namespace Rn
open Go.Conc
open Go.ConcN (sumTo upd sumTo_upd upd_ne upd_same)
open Go.ConcR (g_of_ofEvents)
structure EvC (SB:Bl) (B:Nat) (e:Event):Prop where
 low:∀ x,(MemAct.ofEvent e).touch?=some x→∀ b,lb x.loc=some b→b<B
 alive:∀ x,(MemAct.ofEvent e).touch?=some x→¬ DeadL SB x.loc
 nodis:e.loc ≠ .mark .disable
 noen:e.loc ≠ .mark .enable
 norel:∀ a,e.loc ≠ .mark (.release a)
theorem EvC.evB {SB:Bl} {B:Nat} {e:Event} (h:EvC SB B e):EvB B e:=⟨h.low,h.norel⟩
section
variable {SB : Bl} {t u : Trace}
theorem PastO.app0 (h:PastO SB t) {fn:FuncId} {pos:String} {es:Array Event} {B:Nat} (hes:∀ e ∈ es,EvC SB B e):PastO SB (t ++ MemOp.ofEvents 0 fn pos es):=by
 have hu:∀ op ∈ MemOp.ofEvents 0 fn pos es,op.g=0:=fun op hop=>by obtain ⟨e,_,rfl⟩:=Go.Conc.mem_ofEvents hop; rfl
 refine ⟨fun said=>noRace_append (h.clean said) hu fun i a ha op hop b hb hc => ?_,fun i a ha hm => ?_,handedOver_app h.over fun op hop => .inl (hu op hop),?_⟩
 ·rcases h.known i a ha hc.2.1 with hk | ⟨hd,_⟩
  ·exact hk
  ·obtain ⟨e,he,rfl⟩:=Go.Conc.mem_ofEvents hop
   exact absurd (hc.1 ▸ hd) ((hes e he).alive b hb)
 ·obtain ⟨x,hx,hxa⟩:=touch_of ha
  rcases getElem?_append_cases hx with ⟨_,hx'⟩ | ⟨_,hxu⟩
  ·exact (h.known i a (by rw [touchAt_of hx']; exact hxa) hm).imp (·.app _) id
  ·have:=knows_own hx
   rw [hu x hxu] at this;exact .inl this
 ·rw [Deaf_own]
  rw [deafBehind_still (fun e he=>⟨(hes e he).nodis,(hes e he).noen⟩)];exact h.hears
theorem PastO.appMute {g:Nat} (h:PastO SB t) (hg:g ≠ 0) (hu:∀ op ∈ u,op.g=g) (hn:∀ op ∈ u,op.act.touch?=none):PastO SB (t ++ u):=by
 refine ⟨fun said=>noRace_append (h.clean said) hu fun i a _ op hop b hb _=>(by rw [hn op hop] at hb; cases hb),fun i a ha hm => ?_,handedOver_app h.over fun op hop => .inr (hn op hop),(Deaf_other t hg u hu).trans h.hears⟩;obtain ⟨x,hx,hxa⟩:=touch_of ha;rcases getElem?_append_cases hx with ⟨_,hx'⟩ | ⟨_,hxu⟩
 ·exact (h.known i a (by rw [touchAt_of hx']; exact hxa) hm).imp (·.app u) id
 ·rw [hn x hxu] at hxa; cases hxa
end
section
variable {P : Program} {SB : Bl}
theorem Calm.at {gs:Array Goroutine} {w:World} {t:Trace} (h:Calm P SB gs w t) (d:Nat):Calm P SB gs (w.at d) t:=⟨h.old,h.above,h.past,h.seen,h.norel,h.sb⟩
theorem beside_any {gs:Array Goroutine} {a:Goroutine} {w:World} {sl:Option (Nat × Nat)} {t:Trace} {q:Nat→Nat} (hc:Calm P SB gs w t) (hq:∀ i g,0<i→gs[i]?=some g→QuitsD P (q i) (Deaf t i) g) (h0:gs[0]?=some a) (hrun:a.status = .running) :
  (∃ d sl',stepT P (crowd gs w sl)=runT P (crowd gs (w.at d) sl') 0) ∨
  ∃ gs' d sl' t' q',runNT P 1 (crowd gs w sl) t=(.next (crowd gs' (w.at d) sl'),t')∧runN P 1 (crowd gs w sl) = .next (crowd gs' (w.at d) sl')∧Calm P SB gs' (w.at d) t'∧(∀ i g,0<i→gs'[i]?=some g→QuitsD P (q' i) (Deaf t' i) g)∧gs'[0]?=some a∧gs'.size=gs.size∧sumTo gs.size q'<sumTo gs.size q:=by
 have haw:∀ g ∈ gs,awake g:=by
  intro g hg;obtain ⟨i,hi,rfl⟩:=Array.mem_iff_getElem.1 hg;rcases Nat.eq_zero_or_pos i with rfl | hpos
  ·have:gs[0]=a:=by simpa [Array.getElem?_eq_getElem hi] using h0
   rw [this]; exact awake_of (.inl hrun)
  ·exact awake_of ((hq i _ hpos (Array.getElem?_eq_getElem hi)).status.elim .inl fun x => .inr (.inr x))
 obtain ⟨i,g,d,sl',hi,hg,hst⟩:=crowd_pick (P:=P) (w:=w) (sl:=sl) haw ⟨0,a,h0,hrun⟩;rcases Nat.eq_zero_or_pos i with rfl | hpos
 ·exact .inl ⟨d,sl',hst⟩
 ·right
  have hqq:=hq i g hpos hi;have hi0:(i == 0)=false:=by simp; omega
  have hlt:i<gs.size:=(Array.getElem?_eq_some_iff.1 hi).1;cases hqi:q i with
  | zero=>rw [hqi] at hqq; rw [hqq.1] at hg; cases hg
  | succ k =>
   rw [hqi] at hqq;rcases hqq with ⟨hf,_⟩ | ⟨_,g',es,hm,hstp,hq'⟩
   ·rw [hf] at hg; cases hg
   have hrunT:=runT_crowd_go (P:=P) (sl:=sl') (i:=i) hi (by rw [hi0]; exact hstp (w.at d));have hsum:sumTo gs.size (upd q i k)+(k+1)=sumTo gs.size q+k:=by
    have:=sumTo_upd q k id hlt;simpa [hqi] using this
   have hstep:=hst.trans hrunT;have hq2:∀ j x,0<j→((gs.map (woken P g g' (w.at d))).setIfInBounds i g')[j]?=some x→QuitsD P (upd q i k j) (Deaf (t ++ MemOp.ofEvents i g.frame.fn g.frame.place es) j) x:=fun j x hj hx=>by
    by_cases hji:i=j
    ·subst hji
     rw [Array.getElem?_setIfInBounds_self_of_lt (by simpa using hlt)] at hx;obtain rfl:=Option.some.inj hx;rw [upd_same,Deaf_own];exact hq'
    ·rw [Array.getElem?_setIfInBounds_ne hji,Array.getElem?_map] at hx
     obtain ⟨y,hy,rfl⟩:=Option.map_eq_some_iff.1 hx;have hqj:=hq j y hj hy;rw [woken_quitsD hqj,upd_ne q k (Ne.symm hji),Deaf_other t hji _ g_of_ofEvents];exact hqj
   obtain ⟨sn,nrl⟩:=seen_ofEvents (B:=w.heap.size) (g:=i) (fn:=g.frame.fn) (pos:=g.frame.place) (es:=es) fun e he=>evB_mute (hm e he)
   refine ⟨_,d,sl',t ++ MemOp.ofEvents i g.frame.fn g.frame.place es,upd q i k,?_,?_,⟨fun j x hj hx=>⟨_,hq2 j x hj hx⟩,fun j hj => ?_,?_,hc.seen.app (Nat.le_refl _) sn,hc.norel.app nrl,hc.sb⟩,hq2,?_,by simp,by omega⟩
   ·rw [runNT_succ_next hstep]; rfl
   ·rw [runN_succ_next hstep]; rfl
   ·rw [Deaf_other t (g':=i) (by simp at hj; omega) _ g_of_ofEvents]
    exact hc.above j (by simpa using hj)
   ·exact hc.past.appMute (by omega) g_of_ofEvents fun op hop=>by obtain ⟨e,he,rfl⟩:=Go.Conc.mem_ofEvents hop; exact touch_mute (hm e he)
   ·rw [Array.getElem?_setIfInBounds_ne (by omega),Array.getElem?_map,h0]
    simp [woken_run hrun]
theorem runN_one_add {n:Nat} {m m1:Machine} {t t1:Trace} (h1:runNT P 1 m t=(.next m1,t1)) (h2:runN P 1 m = .next m1):runNT P (1+n) m t=runNT P n m1 t1∧runN P (1+n) m=runN P n m1:=by
 rw [runNT_add,h1,runN_add,h2];exact ⟨rfl,rfl⟩
theorem beside_one:∀ (M:Nat) {gs:Array Goroutine} {a:Goroutine} {w:World} {sl:Option (Nat × Nat)} {t:Trace} {q:Nat→Nat},sumTo gs.size q≤M→Calm P SB gs w t→(∀ i g,0<i→gs[i]?=some g→QuitsD P (q i) (Deaf t i) g)→gs[0]?=some a→a.status = .running →
  (∀ d,∃ a' w' es,stepG P true a (w.at d) = .go a' w' es∧w.heap.size≤w'.heap.size∧∀ e ∈ es,EvC SB w'.heap.size e) →
  ∃ N gs' sl' t' d a' w' es,runNT P N (crowd gs w sl) t=(.next (crowd gs' w' sl'),t')∧runN P N (crowd gs w sl) = .next (crowd gs' w' sl')∧stepG P true a (w.at d) = .go a' w' es∧Calm P SB gs' w' t'∧gs'[0]?=some a'∧gs'.size=gs.size:=by
 intro M;induction M with
 | zero =>
  intro gs a w sl t q hM hc hq h0 hrun hstep;rcases beside_any (sl:=sl) hc hq h0 hrun with ⟨d,sl',hst⟩ | ⟨_,_,_,_,_,_,_,_,_,_,_,hlt⟩
  ·obtain ⟨a',w',es,hgo,hsz,hev⟩:=hstep d
   have hrunT:=runT_crowd_go (P:=P) (sl:=sl') (i:=0) h0 (show stepG P (0 == 0) a (w.at d)=_ from hgo);have hstep':=hst.trans hrunT;have hlt:0<gs.size:=(Array.getElem?_eq_some_iff.1 h0).1;obtain ⟨sn,nrl⟩:=seen_ofEvents (g:=0) (fn:=a.frame.fn) (pos:=a.frame.place) fun e he=>(hev e he).evB
   refine ⟨1,_,sl',_,d,a',w',es,by rw [runNT_succ_next hstep']; rfl,by rw [runN_succ_next hstep']; rfl,hgo,⟨fun j x hj hx => ?_,fun j hj => ?_,hc.past.app0 hev,hc.seen.app hsz sn,hc.norel.app nrl,fun b hb=>Nat.lt_of_lt_of_le (hc.sb b hb) hsz⟩,by simp [hlt],by simp⟩
   ·rw [Array.getElem?_setIfInBounds_ne (by omega),Array.getElem?_map] at hx
    obtain ⟨y,hy,rfl⟩:=Option.map_eq_some_iff.1 hx;have hqj:=hq j y hj hy;refine ⟨q j,?_⟩;rw [woken_quitsD hqj,Deaf_other t (by omega) _ g_of_ofEvents];exact hqj
   ·rw [Deaf_other t (g':=0) (by simp at hj; omega) _ g_of_ofEvents]
    exact hc.above j (by simpa using hj)
  ·omega
 | succ M ih =>
  intro gs a w sl t q hM hc hq h0 hrun hstep;rcases beside_any (sl:=sl) hc hq h0 hrun with ⟨d,sl',hst⟩ | ⟨gs1,d,sl1,t1,q1,e1,e2,hc1,hq1,h01,hs1,hlt⟩
  ·obtain ⟨a',w',es,hgo,hsz,hev⟩:=hstep d
   have hrunT:=runT_crowd_go (P:=P) (sl:=sl') (i:=0) h0 (show stepG P (0 == 0) a (w.at d)=_ from hgo);have hstep':=hst.trans hrunT;have hlt:0<gs.size:=(Array.getElem?_eq_some_iff.1 h0).1;obtain ⟨sn,nrl⟩:=seen_ofEvents (g:=0) (fn:=a.frame.fn) (pos:=a.frame.place) fun e he=>(hev e he).evB
   refine ⟨1,_,sl',_,d,a',w',es,by rw [runNT_succ_next hstep']; rfl,by rw [runN_succ_next hstep']; rfl,hgo,⟨fun j x hj hx => ?_,fun j hj => ?_,hc.past.app0 hev,hc.seen.app hsz sn,hc.norel.app nrl,fun b hb=>Nat.lt_of_lt_of_le (hc.sb b hb) hsz⟩,by simp [hlt],by simp⟩
   ·rw [Array.getElem?_setIfInBounds_ne (by omega),Array.getElem?_map] at hx
    obtain ⟨y,hy,rfl⟩:=Option.map_eq_some_iff.1 hx;have hqj:=hq j y hj hy;refine ⟨q j,?_⟩;rw [woken_quitsD hqj,Deaf_other t (by omega) _ g_of_ofEvents];exact hqj
   ·rw [Deaf_other t (g':=0) (by simp at hj; omega) _ g_of_ofEvents]
    exact hc.above j (by simpa using hj)
  ·obtain ⟨N,gs',sl',t',d',a',w',es,r1,r2,r3,r4,r5,r6⟩:=ih (sl:=sl1) (by rw [hs1]; omega) hc1 hq1 h01 hrun fun d'=>hstep d'
   obtain ⟨k1,k2⟩:=runN_one_add (n:=N) e1 e2;exact ⟨1+N,gs',sl',t',d',a',w',es,k1.trans r1,k2.trans r2,r3,r4,r5,r6.trans hs1⟩
theorem Calm.fuel {gs:Array Goroutine} {w:World} {t:Trace} (hc:Calm P SB gs w t):∃ q:Nat→Nat,∀ i g,0<i→gs[i]?=some g→QuitsD P (q i) (Deaf t i) g:=by
 classical
 refine ⟨fun i=>if h:∃ g,0<i∧gs[i]?=some g then Classical.choose (hc.old i h.choose h.choose_spec.1 h.choose_spec.2) else 0,fun i g hi hg => ?_⟩;have h:∃ g,0<i∧gs[i]?=some g:=⟨g,hi,hg⟩;have e:h.choose=g:=Option.some.inj (h.choose_spec.2.symm.trans hg);have:=Classical.choose_spec (hc.old i h.choose h.choose_spec.1 h.choose_spec.2);simp only [dif_pos h];generalize Classical.choose (hc.old i h.choose h.choose_spec.1 h.choose_spec.2)=n at this;rw [e] at this;exact this
theorem beside_step {gs:Array Goroutine} {a:Goroutine} {w:World} {t:Trace} (sl:Option (Nat × Nat)) (hc:Calm P SB gs w t) (h0:gs[0]?=some a) (hrun:a.status = .running)
  (hstep:∀ d,∃ a' w' es,stepG P true a (w.at d) = .go a' w' es∧w.heap.size≤w'.heap.size∧∀ e ∈ es,EvC SB w'.heap.size e) :
  ∃ N gs' sl' t' d a' w' es,runNT P N (crowd gs w sl) t=(.next (crowd gs' w' sl'),t')∧runN P N (crowd gs w sl) = .next (crowd gs' w' sl')∧stepG P true a (w.at d) = .go a' w' es∧Calm P SB gs' w' t'∧gs'[0]?=some a'∧gs'.size=gs.size:=by
 obtain ⟨q,hq⟩:=hc.fuel;exact beside_one _ (Nat.le_refl _) hc hq h0 hrun hstep
theorem beside_last {Post:Value→World→Prop}:∀ (M:Nat) {gs:Array Goroutine} {a:Goroutine} {w:World} {sl:Option (Nat × Nat)} {t:Trace} {q:Nat→Nat},sumTo gs.size q≤M→Calm P SB gs w t→(∀ i g,0<i→gs[i]?=some g→QuitsD P (q i) (Deaf t i) g)→gs[0]?=some a→a.status = .running →
  (∀ d,∃ v w' es,stepG P true a (w.at d) = .ended (.done v) w' es∧Post v w'∧∀ e ∈ es,EvC SB w'.heap.size e) →
  ∃ N last o w' t',runNT P (N+1) (crowd gs w sl) t=(.ended o w',t')∧runN P N (crowd gs w sl) = .next last∧step P last = .ended o w'∧Go.Conc.Good P Post last o w' t':=by
 intro M;induction M with
 | zero =>
  intro gs a w sl t q hM hc hq h0 hrun hstep;rcases beside_any (sl:=sl) hc hq h0 hrun with ⟨d,sl',hst⟩ | ⟨_,_,_,_,_,_,_,_,_,_,_,hlt⟩
  ·obtain ⟨v,w',es,hend,hpost,hev⟩:=hstep d
   have hrunT:=runT_many_ended (P:=P) (sl:=sl') (i:=0) h0 (show stepG P (0 == 0) a (w.at d)=_ from hend);have hstep':=hst.trans hrunT;have hP':=hc.past.app0 (fn:=a.frame.fn) (pos:=a.frame.place) hev;refine ⟨0,crowd gs w sl,_,w',_,by simp [runNT,hstep'],rfl,by simp [step,hstep'],v,rfl,hpost,hP'.clean,hP'.over,⟨fun x hx => ?_,rfl⟩,fun j x hx hj => ?_⟩
   ·obtain ⟨j,hj⟩:=List.mem_iff_getElem?.1 hx
    rw [List.getElem?_drop] at hj;exact ⟨_,(hq (1+j) x (by omega) (by simpa [crowd] using hj)).leaves⟩
   ·have hqj:=hq j x (by omega) hx
    refine ⟨q j,?_⟩;have e:(t ++ MemOp.ofEvents 0 a.frame.fn a.frame.place es).deaf j (t ++ MemOp.ofEvents 0 a.frame.fn a.frame.place es).size=Deaf t j:=Deaf_other t (g:=j) (g':=0) (by omega) _ g_of_ofEvents;rw [e];exact hqj.hears _
  ·omega
 | succ M ih =>
  intro gs a w sl t q hM hc hq h0 hrun hstep;rcases beside_any (sl:=sl) hc hq h0 hrun with ⟨d,sl',hst⟩ | ⟨gs1,d,sl1,t1,q1,e1,e2,hc1,hq1,h01,hs1,hlt⟩
  ·obtain ⟨v,w',es,hend,hpost,hev⟩:=hstep d
   have hrunT:=runT_many_ended (P:=P) (sl:=sl') (i:=0) h0 (show stepG P (0 == 0) a (w.at d)=_ from hend);have hstep':=hst.trans hrunT;have hP':=hc.past.app0 (fn:=a.frame.fn) (pos:=a.frame.place) hev;refine ⟨0,crowd gs w sl,_,w',_,by simp [runNT,hstep'],rfl,by simp [step,hstep'],v,rfl,hpost,hP'.clean,hP'.over,⟨fun x hx => ?_,rfl⟩,fun j x hx hj => ?_⟩
   ·obtain ⟨j,hj⟩:=List.mem_iff_getElem?.1 hx
    rw [List.getElem?_drop] at hj;exact ⟨_,(hq (1+j) x (by omega) (by simpa [crowd] using hj)).leaves⟩
   ·have hqj:=hq j x (by omega) hx
    refine ⟨q j,?_⟩;have e:(t ++ MemOp.ofEvents 0 a.frame.fn a.frame.place es).deaf j (t ++ MemOp.ofEvents 0 a.frame.fn a.frame.place es).size=Deaf t j:=Deaf_other t (g:=j) (g':=0) (by omega) _ g_of_ofEvents;rw [e];exact hqj.hears _
  ·obtain ⟨N,last,o,w',t',r1,r2,r3,r4⟩:=ih (sl:=sl1) (by rw [hs1]; omega) hc1 hq1 h01 hrun fun d'=>hstep d'
   obtain ⟨k1,_⟩:=runN_one_add (n:=N+1) e1 e2;obtain ⟨_,k2⟩:=runN_one_add (n:=N) e1 e2;exact ⟨1+N,last,o,w',t',by rw [Nat.add_assoc]; exact k1.trans r1,k2.trans r2,r3,r4⟩
structure Ran (own:Bl) (w w':World) (own':Bl):Prop where
 tape:w'.tape=w.tape
 os:w'.os=w.os
 output:w'.output=w.output
 size:w.heap.size≤w'.heap.size
 block:∀ b,b<w.heap.size→¬ own b→w'.heap[b]?=w.heap[b]?
 news:∀ b,own' b→own b ∨ (w.heap.size≤b∧b<w'.heap.size)
 sub:∀ b,own b→own' b
theorem Ran.refl (own:Bl) (w:World):Ran own w w own:=⟨rfl,rfl,rfl,Nat.le_refl _,fun _ _ _=>rfl,fun _ x => .inl x,fun _ x=>x⟩
theorem evOwn_evC {own ro:Bl} {SB:Bl} {B:Nat} {e:Event} (h:EvOwn own ro e) (ho:∀ b,own b ∨ ro b→b<B∧¬ SB b):EvC SB B e:=by
 have key:(∀ x,(MemAct.ofEvent e).touch?=some x→∃ b,lb x.loc=some b∧(own b ∨ ro b))∧e.loc ≠ .mark .disable∧e.loc ≠ .mark .enable∧∀ a,e.loc ≠ .mark (.release a):=by
  obtain ⟨loc,wr,sy⟩:=e;rcases h with ⟨hsy,⟨q,hq,hx2⟩ | ⟨q,hq,hx2⟩⟩ | hx2
  ·simp only at hsy hq; subst hsy; subst hq
   refine ⟨fun x hx => ?_,by simp,by simp,by simp⟩;simp only [MemAct.ofEvent,MemAct.touch?,Option.some.injEq] at hx;subst hx;exact ⟨_,rfl,hx2.imp id fun y=>y.1⟩
  ·simp only at hsy hq; subst hsy; subst hq
   refine ⟨fun x hx => ?_,by simp,by simp,by simp⟩;cases wr <;> simp only [MemAct.ofEvent,MemAct.touch?,Option.some.injEq] at hx <;> subst hx <;> exact ⟨_,rfl,hx2.imp id fun y=>y.1⟩
  ·cases hx2
   refine ⟨fun x hx => ?_,by simp,by simp,by simp⟩;simp [MemAct.ofEvent,MemAct.touch?] at hx
 obtain ⟨k1,k2,k3,k4⟩:=key;refine ⟨fun x hx b hb => ?_,fun x hx hd => ?_,k2,k3,k4⟩
 ·obtain ⟨b',hb',hob⟩:=k1 x hx
  rw [hb] at hb'; cases hb';exact (ho b hob).1
 ·obtain ⟨b',hb',hob⟩:=k1 x hx
  obtain ⟨b,hb,hs⟩:=hd;rw [hb] at hb'; cases hb';exact (ho _ hob).2 hs
theorem beside_way {ro:Bl} {Stop:Bl→Goroutine→World→Prop} {own:Bl} {a:Goroutine} {w:World} (h:WayG P true (fun own=>Stays (fun b=>own b ∨ ro b)) (fun own=>Did own ro) Stop own a w) :
  ∀ {gs:Array Goroutine} {sl:Option (Nat × Nat)} {t:Trace},Calm P SB gs w t→gs[0]?=some a→(∀ b,own b ∨ ro b→b<w.heap.size∧¬ SB b) →
  ∃ N gs' sl' t' a' w' own',runNT P N (crowd gs w sl) t=(.next (crowd gs' w' sl'),t')∧runN P N (crowd gs w sl) = .next (crowd gs' w' sl')∧Calm P SB gs' w' t'∧gs'[0]?=some a'∧gs'.size=gs.size∧Stop own' a' w'∧Ran own w w' own':=by
 induction h with
 | @stop own a w h=>intro gs sl t hc h0 ho; exact ⟨0,gs,sl,t,a,w,own,rfl,rfl,hc,h0,rfl,h w (Stays.refl _ _),.refl _ _⟩
 | @step own a w ng nw ne hg h1 _ ih =>
  intro gs sl t hc h0 ho;have hst:∀ d,Stays (fun b=>own b ∨ ro b) w (w.at d):=fun d=>⟨rfl,rfl,rfl,Nat.le_refl _,fun _ _ _=>rfl⟩
  have hpl:∀ d,∀ b,Plus own (w.at d) (nw (w.at d)) b ∨ ro b→b<(nw (w.at d)).heap.size∧¬ SB b:=fun d b hb=>by
   have hd:=(h1 _ (hst d)).2;have hsz:w.heap.size≤_:=hd.size;rcases hb with (hb | ⟨h2,h3⟩) | hb
   ·obtain ⟨k1,k2⟩:=ho b (.inl hb)
    exact ⟨by omega,k2⟩
   ·exact ⟨h3,fun hs=>by have:=hc.sb b hs; have h2':w.heap.size≤b:=h2; omega⟩
   ·obtain ⟨k1,k2⟩:=ho b (.inr hb)
    exact ⟨by omega,k2⟩
  obtain ⟨N,gs1,sl1,t1,d,a1,w1,es,r1,r2,r3,r4,r5,r6⟩:=beside_step sl hc h0 hg fun d=>⟨_,_,_,(h1 _ (hst d)).1,(h1 _ (hst d)).2.size,fun e he=>evOwn_evC ((h1 _ (hst d)).2.ev e he) (hpl d)⟩
  have e:=(h1 _ (hst d)).1.symm.trans r3;have hd:=(h1 _ (hst d)).2;simp only [GStep.go.injEq] at e;obtain ⟨rfl,rfl,rfl⟩:=e;obtain ⟨N2,gs2,sl2,t2,a2,w2,own2,q1,q2,q3,q4,q5,q6,q7⟩:=ih _ (hst d) (sl:=sl1) r4 r5 (hpl d);have hsz:w.heap.size≤_:=hd.size;refine ⟨N+N2,gs2,sl2,t2,a2,w2,own2,by rw [runNT_add,r1]; exact q1,by rw [runN_add,r2]; exact q2,q3,q4,q5.trans r6,q6,⟨q7.tape.trans hd.tape,q7.os.trans hd.os,q7.output.trans hd.output,Nat.le_trans hsz q7.size,fun b hb hn => ?_,fun b hb => ?_,fun b hb=>q7.sub b (.inl hb)⟩⟩
  ·rw [q7.block b (Nat.lt_of_lt_of_le hb hsz) (fun x=>x.elim hn fun y=>by have h2':w.heap.size≤b:=y.1; omega)]
   exact hd.block b hb hn
  ·rcases q7.news b hb with (x | ⟨x,y⟩) | ⟨x,y⟩
   ·exact .inl x
   ·exact .inr ⟨x,Nat.lt_of_lt_of_le y q7.size⟩
   ·exact .inr ⟨by omega,y⟩
end
end Rn
namespace Rn
open Go.Conc Go.RowKit Go.Conc.Lib Go.ConcR.Gen Go.ConcN.Gen
open Go.ConcN (WgLive PayAt Has AtR0 RW AsideCell ShN PermW RelBy CTag WD upd upd_same upd_ne sumTo cnt Vc Ssum phi)
open Go.ConcR (KK WgAt stA smA rd wr mk Payload DC0)
theorem beside_goes {P:Program} {SB:Bl} {R:World→World→Prop} {Z:Goroutine→World→Prop} (hR:∀ w d,R w (w.at d)) (tr:∀ a b c,R a b→R b c→R a c) (hZ:∀ g w,Z g w→g.status = .running):∀ (m:Nat) {gs:Array Goroutine} {a:Goroutine} {w:World} {t:Trace} (sl:Option (Nat × Nat)),
  Calm P SB gs w t→gs[0]?=some a→Goes P true R DC0 Z m a w →
  ∃ N gs' sl' t' d a',runNT P N (crowd gs w sl) t=(.next (crowd gs' (w.at d) sl'),t')∧Calm P SB gs' (w.at d) t'∧gs'[0]?=some a'∧gs'.size=gs.size∧Z a' (w.at d):=by
 intro m;induction m with
 | zero =>
  intro gs a w t sl hc h0 h;exact ⟨0,gs,sl,t,w.drawn,a,rfl,hc,h0,rfl,h _ (hR w _)⟩
 | succ m ih =>
  intro gs a w t sl hc h0 h;rcases h with h | ⟨hg,h⟩
  ·exact ⟨0,gs,sl,t,w.drawn,a,rfl,hc,h0,rfl,h _ (hR w _)⟩
  ·obtain ⟨N,gs1,sl1,t1,d,a1,w1,es,r1,r2,r3,r4,r5,r6⟩:=Rn.beside_step sl hc h0 hg fun d=>(goes_elim (h _ (hR w d))).elim fun a' x=>x.elim fun w' x=>x.elim fun es x=>⟨a',w',es,x.1,by rw [x.2.1.1]; exact Nat.le_refl _,by rw [x.2.1.2]; simp⟩
   obtain ⟨a',w',es',e,⟨rfl,rfl⟩,hk⟩:=goes_elim (h _ (hR w d));rw [e] at r3;simp only [GStep.go.injEq] at r3;obtain ⟨rfl,rfl,rfl⟩:=r3;obtain ⟨N2,gs2,sl2,t2,d2,a2,q1,q2,q3,q4,q5⟩:=ih sl1 r4 r5 hk;exact ⟨N+N2,gs2,sl2,t2,d2,a2,by rw [runNT_add,r1]; exact q1,q2,q3,q4.trans r6,q5⟩
section
variable {n c : Nat} {xs : List Int} {rb fb blk off Wg C : Nat}
structure AtLoop (SB:Bl) (n c:Nat) (xs:List Int) (rb fb blk off Wg C:Nat) (w:World):Prop where
 n1:1≤n
 n20:n≤20
 glob:Tryz.prog.globals.size≤Wg
 ne:C ≠ Wg
 hwg:WgAt wgLink.tWg Wg w 0 0
 pay:PayAt C n w
 sWg:¬ SB Wg
 sC:¬ SB C
 hrb:rb<w.heap.size∧rb ≠ Wg∧rb ≠ C∧¬ SB rb
 hfb:fb<w.heap.size∧fb ≠ Wg∧fb ≠ C∧¬ SB fb
 hblk:blk<w.heap.size∧blk ≠ Wg∧blk ≠ C∧¬ SB blk
 rbx:w.cell? ⟨rb,0,none⟩=some (.slice (some ⟨blk,off,none⟩) n c)
 fbx:w.cell? ⟨fb,0,none⟩=some (.slice (some ⟨C,0,none⟩) n n)
 rows:∀ k,k<4*n→w.cell? ⟨blk,off+k,none⟩=some (.int .i64 (nth xs k))
noncomputable def phC (SB:Bl) (zs:Nat→List Int) (n Wg C s B0 N0:Nat):Ph := { P:=Tryz.prog,ty:=wgLink.tWg,Wg,C,n,s,B0,N0,SB,fin:=FinT zs }
theorem phaseC {zs : Nat → List Int} {noT : TypeId} (hno : Tryz.prog.toTables.info? noT = none)
    (hlone : ∀ i, i < n → ∀ w t d, Calls Tryz.prog 108 #[.slice (some ⟨Tryz.prog.globals.size, 0, none⟩) n c, .int .i64 i] ((winW w n xs noT).tp t d) fun e w' => ∃ v, e = .returned v ∧ ∃ A m c', v = .slice A m c' ∧ m * 4 = (zs i).length ∧ ((m = 0 ∧ A = none) ∨ 0 < m ∧ ∃ b off, A = some ⟨b, off, none⟩ ∧ b ≠ Tryz.prog.globals.size ∧ ∀ k, k < 4 * m → w'.cell? ⟨b, off + k, none⟩ = some (.int .i64 (nth (zs i) k))))
    {SB : Bl} {gs : Array Goroutine} {w : World} {t : Trace} (sl : Option (Nat × Nat)) (hc : Calm Tryz.prog SB gs w t) {T : Array Value} {cs : List Frame}
    (h0 : gs[0]? = some (G ((base 87).at ⟨T, []⟩ [.code (.block 0 (.loop cloop)), .code ctail]) cs))
    (hT : TC T rb fb Wg n) (h24 : T[24]? = some (.int .i64 n)) (h25 : T[25]? = some (.int .i64 0)) (hA : AtLoop SB n c xs rb fb blk off Wg C w) :
    ∃ N gs' sl' t' w' T', runNT Tryz.prog N (crowd gs w sl) t = (.next (crowd gs' w' sl'), t') ∧ Calm Tryz.prog (fun b => SB b ∨ b = Wg) gs' w' t' ∧ gs'.size = gs.size + n ∧
      gs'[0]? = some (G ((base 87).at ⟨T', []⟩ [.code cend]) cs) ∧ TC T' rb fb Wg n ∧ Stays (fun b => b < w.heap.size ∧ b ≠ Wg ∧ b ≠ C) w w' ∧
      PayAt C n w' ∧ ∀ i, i < n → ∃ v O, Has C i v w' ∧ FinT zs i O v w' ∧ ∀ b, O b → w.heap.size ≤ b ∧ b < w'.heap.size := by
  let Q : Ph := phC SB zs n Wg C gs.size w.heap.size t.size
  have hgs : 0 < gs.size := (Array.getElem?_eq_some_iff.1 h0).1;obtain ⟨cs0, hc1, hc2⟩ := hA.pay;have gq : Geo Q := { s1 := hgs, wg := (Array.getElem?_eq_some_iff.1 hA.hwg).1, c := (Array.getElem?_eq_some_iff.1 hc1).1, ne := hA.ne, sWg := hA.sWg, sC := hA.sC, sB := hc.sb };have gc : GC Q rb fb blk := ⟨⟨⟨hA.hrb.1, hA.hrb.2.1, hA.hrb.2.2.1⟩, hA.hrb.2.2.2⟩, ⟨⟨hA.hfb.1, hA.hfb.2.1, hA.hfb.2.2.1⟩, hA.hfb.2.2.2⟩, ⟨⟨hA.hblk.1, hA.hblk.2.1, hA.hblk.2.2.1⟩, hA.hblk.2.2.2⟩⟩;have hF : FC Q n c xs rb fb blk off w ∧ WgLive Q.ty Q.Wg w := ⟨⟨Nat.le_refl _, hA.rbx, hA.fbx, hA.rows⟩, 0, 0, hA.hwg⟩;have fo : FinOk Q := finT_ok (zs := zs) rfl;have hsp : Spawns Q (AnchC Q n c xs rb fb blk off cs) n (fun _ => False) (G ((base 87).at ⟨T, []⟩ [.code (.block 0 (.loop cloop)), .code ctail]) cs) w := by
    have hP : Q.P = Tryz.prog := rfl;refine spawns_goes hP (m := 2) ?_;u_c stepG_block (fc_rely gc) hF
    u_c stepG_loop (fc_rely gc) hF
    refine Goes.stop fun w1 h1 => ?_
    replace hF := fc_rely gc hF h1
    exact spawnsC hno gq gc hP rfl rfl rfl hA.glob hA.n20 hlone cs n 0 (Nat.zero_add _) T w1 hT h24 h25 hF
  obtain ⟨r, hr⟩ : ∃ r, n = r + 1 := ⟨n - 1, by have := hA.n1; omega⟩
  have hrn : r < Q.n := by show r < n; omega
  have hj : Q.n - (r + 1) = 0 := by show n - (r + 1) = 0; omega
  obtain ⟨T0, hT0⟩ : ∃ T0, CS Q (AnchC Q n c xs rb fb blk off cs) (OutC Q n c xs rb fb blk off cs) (.sp r 5) 0 T0 0 (fun _ => False) (G ((base 87).at ⟨T, []⟩ [.code (.block 0 (.loop cloop)), .code ctail]) cs) w := by
    have hsp' : Spawns Q (AnchC Q n c xs rb fb blk off cs) (r + 1) (fun _ => False) (G ((base 87).at ⟨T, []⟩ [.code (.block 0 (.loop cloop)), .code ctail]) cs) w := by rw [← hr]; exact hsp
    obtain ⟨T0, hT0⟩ := WayG.tree hsp';exact ⟨T0, by have := CS.skd (Out := OutC Q n c xs rb fb blk off cs) hrn hT0; rwa [hj] at this⟩
  obtain ⟨q, hq⟩ := hc.fuel;have hI : Inv Q (AnchC Q n c xs rb fb blk off cs) (OutC Q n c xs rb fb blk off cs) w _ (crowd gs w sl) t := ⟨gs, w, sl, 0, fun _ => ⟨0, 0, 0⟩, fun k => if k = 0 then T0 else natT (q k), .sp r 5, 0, fun _ => 0, fun _ => 0, fun _ _ => False, fun _ => False, _, 0, 0, rfl,
    { size := rfl
      a0 := h0
      cs := by rw [if_pos rfl]; exact hT0
      old := fun k hk hks g hg => ⟨q k, by rw [if_neg (by omega)], hq k g hk hg⟩
      wk := fun i hi => absurd hi (by omega)
      ti := TI.start gq hc.past rfl
      xok := ⟨fun i hi => absurd hi (by omega), fun i hi => absurd hi (by omega)⟩
      xlt := fun i hi => absurd hi (by omega)
      olt := fun i hi => absurd hi (by omega)
      o0 := fun b hb => hb.elim
      seen := hc.seen
      norel := hc.norel
      deaf0 := hc.past.hears
      deafW := fun i hi => absurd hi (by omega)
      above := fun k hk => hc.above k hk
      rel := fun i hi => absurd hi (by omega)
      has := fun i hi => absurd hi (by omega)
      pay := hA.pay
      wg := hA.hwg
      mode := by
        have := Go.ConcN.Mode.opn (j := 0) (D := fun _ => (⟨0, 0, 0⟩ : WD)) (tag := .sp r 5) trivial (fun i hi => absurd hi (by omega)) (fun vs e => by cases e);have e : (((Vc 0 (fun _ => (⟨0, 0, 0⟩ : WD)) + Go.ConcN.pend (.sp r 5) : Nat) : Int) * KK) = 0 := by simp [Vc, sumTo, Go.ConcN.pend]
        rwa [e] at this
      acq := fun e => by cases e
      b0 := Nat.le_refl _
      fresh := fun _ _ => rfl
      base := .refl _ _ }, rfl⟩
  obtain ⟨N1, m1, t1, e1, j1, gs1, w1, sl1, D1, F1, d1, ow1, X1, O1, O01, a1, st1, sm1, rfl, hp⟩ := phase_runs gq fo (by show n < _; have := hA.n20; omega) (anchC_run cs) (outC_run cs) (anchC_way gq gc rfl cs) _ _ _ hI
  obtain ⟨c1, c2, ⟨_, c3⟩, c4, c5, c6, c7, c8, c9, c10⟩ := phase_calm gq hp;obtain ⟨N2, gs2, sl2, t2, d2, a2, f1, f2, f3, f4, T', f5, rfl, f6⟩ := beside_goes (Z := ZC Q n c xs rb fb blk off cs) (R := RelyS Q fun _ => False) (fun w d => ⟨⟨rfl, rfl, rfl, Nat.le_refl _, fun _ _ _ => rfl⟩, id⟩) (RelyS.trans Q _) (fun g w ⟨_, _, e, _⟩ => by rw [e]; rfl) _ sl1 c1 c2 c3
  have e1' : runNT Tryz.prog N1 (crowd gs w sl) t = _ := e1;refine ⟨N1 + N2, gs2, sl2, t2, w1.at d2, T', by rw [runNT_add, e1']; exact f1, f2, f4.trans c4, f3, f5, ⟨c8.tape, c8.os, c8.output, c8.size, c8.block⟩, c6, fun i hi => ?_⟩;obtain ⟨v, hv, hf⟩ := c5 i hi;exact ⟨v, O1 i, hv, hf, c9 i hi⟩
end
end Rn
section
open Go.RowKit
def OwnV (w:World) (base:Nat) (E:TypeId) (v:Value) (xs:List Int):Prop:=w.ownsRow base E 1 v xs.length (xs.map (Value.int .i64))
def OwnI (w:World) (base:Nat) (E:TypeId) (g cap:Nat) (xs:List Int):Prop:=OwnV w base E (.slice (some ⟨g,0,none⟩) xs.length cap) xs
section
variable {w w' : World} {base : Nat} {E : TypeId} {g cap : Nat} {v : Value} {xs : List Int}
theorem OwnV.nil (w:World) (base:Nat) (E:TypeId):OwnV w base E (.slice none 0 0) []:=World.ownsRow_nil _ _ _ _
theorem OwnV.alloc (h:OwnV w base E v xs) (o:Obj):OwnV (w.alloc o) base E v xs:=World.ownsRow.alloc h o
theorem OwnV.drewN (h:OwnV w base E v xs) (n:Nat):OwnV (w.drewN n) base E v xs:=h
theorem OwnV.drew (h:OwnV w base E v xs):OwnV w.drew base E v xs:=h
theorem OwnI.toV (h:OwnI w base E g cap xs):OwnV w base E (.slice (some ⟨g,0,none⟩) xs.length cap) xs:=h
theorem OwnI.alloc (h:OwnI w base E g cap xs) (o:Obj):OwnI (w.alloc o) base E g cap xs:=World.ownsRow.alloc h o
theorem OwnI.drewN (h:OwnI w base E g cap xs) (n:Nat):OwnI (w.drewN n) base E g cap xs:=h
theorem OwnI.drew (h:OwnI w base E g cap xs):OwnI w.drew base E g cap xs:=h
theorem OwnI.blk (h:OwnI w base E g cap xs):base≤g∧g<w.heap.size:=World.ownsRow.lt h g rfl
theorem OwnI.cell (h:OwnI w base E g cap xs) {j:Nat} (hj:j<xs.length):w.cell? ⟨g,j,none⟩=some (.int .i64 (nth xs j)):=by
 rw [World.ownsRow.cellAt h j (by omega),nth_get xs j hj];simp [hj]
theorem OwnI.frozen (h:OwnI w base E g cap xs) (j:Nat):w.frozen? ⟨g,j,none⟩=false:=World.ownsRow.frozenAt h j
theorem OwnI.set (h:OwnI w base E g cap xs) (j:Nat) (z:Int):OwnI (w.setCell ⟨g,j,none⟩ (.int .i64 z)) base E g cap (xs.set j z):=by
 have:=(World.ownsRow.stored h j (.int .i64 z)).1;unfold OwnI OwnV;rw [List.length_set,List.map_set];exact this
theorem OwnI.intsAt (h:OwnI w base E g cap xs):IntsAt w w.heap.size (some ⟨g,0,none⟩) xs.length xs :=
 ⟨rfl,fun _=>⟨g,0,rfl,h.blk.2,fun k hk=>by rw [Nat.zero_add]; exact h.cell hk⟩⟩
theorem OwnV.len {A:Option Addr} {n c:Nat} (h:OwnV w base E (.slice A n c) xs):n=xs.length:=by
 rcases h.2 with ⟨h1,h2⟩ | ⟨g,cap,cur,h1,_⟩
 ·simp at h1; omega
 ·simp at h1; omega
theorem OwnV.intsAt {A:Option Addr} {n c:Nat} (h:OwnV w base E (.slice A n c) xs):IntsAt w w.heap.size A n xs:=by
 rcases h.2 with ⟨h1,h2⟩ | ⟨g,cap,cur,h1,hr⟩
 ·simp at h1
  obtain ⟨rfl,rfl,rfl⟩:=h1;have:xs = []:=List.eq_nil_of_length_eq_zero h2;subst this;exact IntsAt.nil
 ·simp at h1
  obtain ⟨rfl,rfl,rfl⟩:=h1;exact OwnI.intsAt h
theorem OwnV.form (h:OwnV w base E v xs):(v = .slice none 0 0∧xs = []) ∨ ∃ g cap,v = .slice (some ⟨g,0,none⟩) xs.length cap∧OwnI w base E g cap xs:=by
 rcases h.2 with ⟨h1,h2⟩ | ⟨g,cap,cur,h1,hr⟩
 ·exact .inl ⟨h1,List.eq_nil_of_length_eq_zero h2⟩
 ·subst h1
  exact .inr ⟨g,cap,rfl,h⟩
theorem OwnI.new (w:World) (E:TypeId):OwnI (w.alloc (.cells #[] E)) w.heap.size E w.heap.size 0 [] :=
 World.ownsRow_lit (base:=w.heap.size) (e:=E) (size:=1) w #[] 0 (Nat.le_refl _) (by simp [maxLen]) (by simp)
theorem OwnI.mono {base':Nat} (h:OwnI w base E g cap xs) (hb:base'≤base):OwnI w base' E g cap xs:=by
 refine ⟨h.1,?_⟩;rcases h.2 with h2 | ⟨g,cap,cur,h1,h2,hr⟩
 ·exact .inl h2
 ·exact .inr ⟨g,cap,cur,h1,by omega,hr⟩
theorem OwnI.below {B:Nat} (h:OwnI w base E g cap xs) (hb:Below B w w') (hg:g<B):OwnI w' base E g cap xs:=by
 refine ⟨h.1,?_⟩;rcases h.2 with h2 | ⟨g',cap',cur,h1,h2,h3,hr⟩
 ·exact .inl h2
 ·simp at h1
  obtain ⟨rfl,rfl⟩:=h1;exact .inr ⟨g,cap,cur,rfl,h2,(hb.block g hg).trans h3,hr⟩
theorem OwnV.below (h:OwnV w base E v xs) (hb:Below w.heap.size w w'):OwnV w' base E v xs:=by
 rcases h.form with ⟨rfl,rfl⟩ | ⟨g,cap,rfl,hi⟩
 ·exact OwnV.nil _ _ _
 ·exact hi.below hb hi.blk.2
theorem OwnV.ownLt (h:OwnV w base E v xs):∀ k,v.ownBlock=some k→base≤k:=fun k hk=>(World.ownsRow.lt h k hk).1
end
theorem cell_new1 (w:World) (u:Value) (t:TypeId):(w.alloc (.cells #[u] t)).cell? ⟨w.heap.size,0,none⟩=some u:=World.rowIs.cell (World.rowIs_alloc w #[u] t (fun _=>u) (fun i hi=>by simp at hi; subst hi; rfl)) (by simp)
theorem wpList_append_int {P:Program} (w:World) {ops:Array Oper} {rest:List Oper} {o:Oper} {a:Act} {Q:Exit→Act→World→Prop} (hgd:o.guard=none) (s x:Operand) (t:TypeId)
  (ho:o.op = .call { callee := .builtin .append,args := #[s,x],argTypes := #[t,t] })
  (base:Nat) (E:TypeId) (ht:P.underlying t=some (.slice E)) (hinfo:(P.info? E).map (fun i=>(i.zero,i.size,i.bytes))=some (some (.int .i64 0),1,8))
  (v:Value) (xs:List Int) (hs:a.eval s=v) (hown:OwnV w base E v xs) (g c:Nat) (z:Int) (hx:a.eval x = .slice (some ⟨g,0,none⟩) 1 c)
  (hg:w.cell? ⟨g,0,none⟩=some (.int .i64 z)) (hlen:xs.length≤1099511627776) (hbase:base≤w.heap.size)
  (h:∀ g' cap' w',OwnI w' base E g' cap' (xs ++ [z])→w.grownBy w' v.ownBlock→wpList P ops Q rest (a.put o.dst (.slice (some ⟨g',0,none⟩) (xs.length+1) cap')) w'):wpList P ops Q (o :: rest) a w:=by
 obtain ⟨i0,hi0,hz0,hz1,hz2⟩:=info_parts hinfo;refine wpList_append_own (P:=P) w hgd s x t ho base E i0 (.int .i64 0) 1 8 ht hi0 hz0 hz1 hz2 rfl (by decide) v xs.length _ hs hown ⟨g,0,none⟩ 1 c [.int .i64 z] hx rfl ?_ ?_ (by unfold maxLen; omega) (by omega) hbase ?_
 ·intro j u hj
  match j,hj with
  | 0,hj=>simp at hj; subst hj; simpa [Addr.add] using hg
 ·intro u hu; simp at hu; subst hu; rfl
 ·intro v' w' hown' hgr _
  have h':OwnV w' base E v' (xs ++ [z]):=by
   unfold OwnV;rw [List.length_append,List.map_append];exact hown'
  rcases h'.form with ⟨_,h2⟩ | ⟨g',cap',rfl,hi⟩
  ·simp at h2
  ·have e:(xs ++ [z]).length=xs.length+1:=by simp
   rw [e] at *
   exact h g' cap' w' hi hgr
theorem OwnI.cap {w:World} {base:Nat} {E:TypeId} {g cap:Nat} {xs:List Int} (h:OwnI w base E g cap xs):xs.length≤cap:=by
 rcases h.2 with ⟨h1,_⟩ | ⟨g',cap',cur,h1,_,_,h4,_⟩
 ·simp at h1
 ·simp at h1; omega
end
end Go.Proofs.YtjcgklifabcfkaaGreat
