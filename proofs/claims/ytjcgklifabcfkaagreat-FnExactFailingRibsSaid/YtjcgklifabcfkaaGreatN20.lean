/-
  Texts that the law stands on, part 20.
-/
import Derived.Test.YtjcgklifabcfkaaGreatN1
import Derived.Test.YtjcgklifabcfkaaGreatN16
import Derived.Test.YtjcgklifabcfkaaGreatN19
import Derived.Test.YtjcgklifabcfkaaGreatN5
import Derived.Test.YtjcgklifabcfkaaGreatN9
set_option maxRecDepth 100000
set_option linter.unusedVariables false
set_option linter.unusedSimpArgs false
namespace Go.Proofs.YtjcgklifabcfkaaGreat
namespace Rn
open Go.Conc
section
variable {P : Program} {b : Frame} {a : Act} {k : List Item} {cs : List Frame} {w : World}
theorem Ahead.seq {x y:Code} (h:Ahead P (b.at a (.code (.seq x y) :: k)) (cs ++ [Xb]) w) (hcs:cs ≠ []):Ahead P (b.at a (.code x :: .code y :: k)) (cs ++ [Xb]) w:=h.go hcs step_seq
theorem Ahead.region {id:Nat} {ops:Array Oper} (h:Ahead P (b.at a (.code (.region id ops false) :: k)) (cs ++ [Xb]) w) (hcs:cs ≠ []):Ahead P (b.at a (.inRegion ops (List.range ops.size) :: k)) (cs ++ [Xb]) w:=h.go hcs step_region
theorem Ahead.regionEnd {ops:Array Oper} (h:Ahead P (b.at a (.inRegion ops [] :: k)) (cs ++ [Xb]) w) (hcs:cs ≠ []):Ahead P (b.at a k) (cs ++ [Xb]) w:=h.go hcs step_region_end
theorem Ahead.cond {c:Operand} {x y:Code} {t:Bool} (h:Ahead P (b.at a (.code (.cond c x y) :: k)) (cs ++ [Xb]) w) (hcs:cs ≠ []) (ht:a.eval c = .bool t):Ahead P (b.at a (.code (if t then x else y) :: k)) (cs ++ [Xb]) w:=h.go hcs (step_cond ht)
theorem Ahead.skip (h:Ahead P (b.at a (.code .skip :: k)) (cs ++ [Xb]) w) (hcs:cs ≠ []):Ahead P (b.at a k) (cs ++ [Xb]) w:=h.go hcs step_skip
theorem Ahead.no_exit {f:FuncId} {ts:Array Value} {id:Nat} (h:Ahead P ((base f).at ⟨ts,[]⟩ (.code (.exit id) :: k)) (cs ++ [Xb]) w) (hcs:cs ≠ []) (he:exitTo id k=none):False:=by
 have hx:∃ o w1,(stepG P true (G (fra f ts (.code (.exit id) :: k) false) (cs ++ [Xb])) w).bare = .ended o w1:=⟨_,_,by simp [G,fra,stepG,stepG.exec,Frame.at,he,base]; first | rfl | exact ⟨rfl,rfl⟩⟩
 obtain ⟨o,w1,hx⟩:=hx;exact h.not_ended hcs (step_lone_ended hx)
theorem Ahead.val {f:FuncId} {ts:Array Value} {ops:Array Oper} {i:Nat} {rest:List Nat} {o:Oper} {v:Value} {w1:World} (h:Ahead P ((base f).at ⟨ts,[]⟩ (.inRegion ops (i :: rest) :: k)) (cs ++ [Xb]) w) (hcs:cs ≠ []) (ho:ops[i]?=some o) (hwn:Region.wanted o (yielded ops ts)=true)
  (hr:(execOp (Act.mk ts []).eval o).run P w = .ok (.value v) w1):Ahead P ((base f).at ((Act.mk ts []).put o.dst v) (.inRegion ops rest :: k)) (cs ++ [Xb]) w1:=by
 have hki:(base f).kind ≠ .early:=by simp [base]
 have hst:stepG P true (G ((base f).at ⟨ts,[]⟩ (.inRegion ops (i :: rest) :: k)) (cs ++ [Xb])) w=_:=stepG_value ho hwn hki hr;exact h.go hcs (step_lone_go (by
   show (stepG P true (G ((base f).at ⟨ts,[]⟩ (.inRegion ops (i :: rest) :: k)) (cs ++ [Xb])) w).bare=_
   rw [hst]; rfl))
end
section
variable {noT : TypeId} {ws : List Win} {r : Ren} {cs : List Frame} {w : World} {k : List Item}
theorem mul_int {t:TypeId} {v u:Value} {w w1:World} (h:(binOp .mul t v (.int .i64 1)).run Tryzx.prog w = .ok u w1):∃ x,v = .int .i64 x∧w1=w:=by
 cases v with
 | int kd a =>
  by_cases e:kd = .i64
  ·subst e
   simp [binOp,Op.intArith] at h;exact ⟨a,rfl,h.2.symm⟩
  ·simp [binOp,e,stuck] at h
 | _=>simp [binOp,stuck,unsupported] at h
def fo0 : Oper := { dst := some 5, op := .indexAddr 103 (.tmp 0) (.tmp 1), type := 0, pos := "", after := #[], guard := none }
def fo1 (j : Nat) : Oper := { dst := some 6, op := .fieldAddr 133 (.tmp 5) j, type := 0, pos := "", after := #[{ on := 0, ground := .data }], guard := none }
def fo2 : Oper := { dst := some 7, op := .load 3 (.tmp 6), type := 3, pos := "", after := #[{ on := 1, ground := .data }], guard := none }
def fo3 : Oper := { dst := some 8, op := .binOp .mul 3 (.tmp 7) (.const (.int .i64 1)) 3, type := 3, pos := "", after := #[{ on := 2, ground := .data }], guard := none }
def fcode (id j:Nat):Code := .region id #[fo0,fo1 j,fo2,fo3] false
def T13 (x0 x1 x2 u3 u4 u5 u6 u7 u8 u9 u10 u11 u12:Value):Array Value := #[x0,x1,x2,u3,u4,u5,u6,u7,u8,u9,u10,u11,u12]
theorem index_run {A:Option Addr} {n c i:Nat} {w w1:World} {u:Value} (h:(Instr.indexAt 103 (.slice A n c) (.int .i64 i)).run Tryzx.prog w = .ok u w1):∃ a,A=some a∧i<n∧u = .pointer (some (a.add (i*4)))∧w1=w:=by
 have nb:∀ (kk:IntKind) (x y:Int) (cd:BoundsCode) (w:World) (u:Value) (w1:World),(boundsPanic kk x y cd:Sem Value).run Tryzx.prog w ≠ .ok u w1:=fun kk x y cd w u w1 e=>by
  refine (never_bounds (p:=Tryzx.prog) (α:=Value) kk x y cd).1 w #[] u w1 ((boundsPanic kk x y cd:Sem Value).runT Tryzx.prog w #[]).2 ?_;rw [← e,← Sem.runT_fst _ _ _ #[]]
 cases A with
 | none =>
  exfalso
  refine nb .i64 i 0 .index w u w1 ?_;rw [← h];simp [Instr.indexAt,asIntOf,Sem.run_bind]
 | some a =>
  by_cases hi:i<n
  ·have ii:(i:Int)<(n:Int):=by omega
   simp [Instr.indexAt,asIntOf,Sem.run_bind,hi] at h;exact ⟨a,rfl,hi,h.1.symm,h.2.symm⟩
  ·exfalso
   have ii:¬ (i:Int)<(n:Int):=by omega
   refine nb .i64 i n .index w u w1 ?_;rw [← h];simp [Instr.indexAt,asIntOf,Sem.run_bind,hi]
theorem field_run {a:Addr} {j:Nat} (hj:j<4) (w:World):(Instr.fieldAt 133 (.pointer (some a)) j).run Tryzx.prog w = .ok (.pointer (some (a.add j))) w:=by
 match j,hj with
 | 0,_=>simp [Instr.fieldAt,Instr.sureAddr,fieldPlace,Tryz.underlying133]
 | 1,_=>simp [Instr.fieldAt,Instr.sureAddr,fieldPlace,Tryz.underlying133]
 | 2,_=>simp [Instr.fieldAt,Instr.sureAddr,fieldPlace,Tryz.underlying133]
 | 3,_=>simp [Instr.fieldAt,Instr.sureAddr,fieldPlace,Tryz.underlying133]
theorem load_run {a:Addr} {w w1:World} {u:Value} (hk:(∃ c t z,w.heap[a.block]?=some (.cells c t z)) ∨ (∃ es k,w.heap[a.block]?=some (.map es k)) ∨ (∃ p l,w.heap[a.block]?=some (.number p l)) ∨ (∃ cap x cl s q tm,w.heap[a.block]?=some (.chan cap x cl s q tm)))
  (h:(Instr.loadAt 3 (.pointer (some a))).run Tryzx.prog w = .ok u w1):w.cell? a=some u∧w1=w:=by
 simp only [Instr.loadAt,Instr.sureAddr,loadVar,Sem.run_bind,Sem.run_pure,Result.andThen_ok,Tryzx.isAgg_x,Tryz.isAgg3,Bool.false_eq_true,if_false,load,Sem.run] at h;cases hc:w.cell? a with
 | some v =>
  simp only [hc] at h;cases h;exact ⟨rfl,rfl⟩
 | none =>
  exfalso
  simp only [hc,World.farLoad] at h;rcases hk with ⟨c,t,z,hk⟩ | ⟨es,k,hk⟩ | ⟨p,l,hk⟩ | ⟨_,_,_,_,_,_,hk⟩ <;> simp [hk] at h
theorem value_of {P:Program} {s:Sem Value} {w w1:World} {n:Next} (h:(s >>= fun v=>pure (Next.value v)).run P w = .ok n w1):∃ u,s.run P w = .ok u w1∧n = .value u:=by
 rw [Sem.run_bind] at h;cases hs:s.run P w with
 | ok u w2 =>
  rw [hs] at h;simp only [Result.andThen_ok,Sem.run_pure] at h;cases h;exact ⟨u,rfl,rfl⟩
 | halt hh wh=>rw [hs] at h; cases h
theorem fc_ok0:okOp Tryz.prog.toTables lawF lawD fo0=true:=by decide +kernel
theorem fc_ok2:okOp Tryz.prog.toTables lawF lawD fo2=true:=by decide +kernel
theorem fc_ok3:okOp Tryz.prog.toTables lawF lawD fo3=true:=by decide +kernel
theorem fc_ok {j:Nat} (hj:j<4):okOp Tryz.prog.toTables lawF lawD (fo1 j)=true:=by
 match j,hj with
 | 0,_=>decide +kernel
 | 1,_=>decide +kernel
 | 2,_=>decide +kernel
 | 3,_=>decide +kernel
theorem eqGuard_mul {w w1:World} {v u:Value} (h:(Go.eqGuard .mul 3 (.tmp 7) (.const (.int .i64 1)) v (.int .i64 1) >>= fun _=>binOp .mul 3 v (.int .i64 1)).run Tryzx.prog w = .ok u w1):(binOp .mul 3 v (.int .i64 1)).run Tryzx.prog w = .ok u w1:=by
 exact h
theorem fc_ahead {id j:Nat} (hj:j<4) {A:Option Addr} {n c i:Nat} {u3 u4 u5 u6 u7 u8 u9 u10 u11 u12:Value} (hcs:cs ≠ []) (hpl:∀ c ∈ cs,PlainF Tryzx.prog c)
  (h:Ahead Tryzx.prog ((base 87).at ⟨T13 (.slice A n c) (.int .i64 i) (.int .i64 n) u3 u4 u5 u6 u7 u8 u9 u10 u11 u12,[]⟩ (.code (fcode id j) :: k)) (cs ++ [Xb]) w)
  (hv:VAll (sctx noT ws) r (T13 (.slice A n c) (.int .i64 i) (.int .i64 n) u3 u4 u5 u6 u7 u8 u9 u10 u11 u12) (T13 (.slice A n c) (.int .i64 i) (.int .i64 n) u3 u4 u5 u6 u7 u8 u9 u10 u11 u12)) (hw:WR (sctx noT ws) r w w) :
  ∃ a y,A=some a∧i<n∧w.cell? ((a.add (i*4)).add j)=some (.int .i64 y)∧∃ v5 v6 v7 v8 r',Ahead Tryzx.prog ((base 87).at ⟨T13 (.slice A n c) (.int .i64 i) (.int .i64 n) u3 u4 v5 v6 v7 v8 u9 u10 u11 u12,[]⟩ k) (cs ++ [Xb]) w ∧
   VAll (sctx noT ws) r' (T13 (.slice A n c) (.int .i64 i) (.int .i64 n) u3 u4 v5 v6 v7 v8 u9 u10 u11 u12) (T13 (.slice A n c) (.int .i64 i) (.int .i64 n) u3 u4 v5 v6 v7 v8 u9 u10 u11 u12)∧WR (sctx noT ws) r' w w:=by
 have hfn:∃ fn,(sctx noT ws).Px.funcs[(87:Nat)]?=some fn:=⟨_,Tryzx.func87⟩;have h:=h.region hcs;obtain ⟨n0,w0,r0,hr0,s0,hw0,k0⟩:=Ahead.op (S:=sctx noT ws) sok rfl h hcs hpl hfn (o:=fo0) rfl rfl fc_ok0 hv hw;obtain ⟨u0,hu0,rfl⟩:=value_of hr0;obtain ⟨a,rfl,hi,rfl,rfl⟩:=index_run hu0;obtain ⟨hv0,h0⟩:=k0 _ rfl;obtain ⟨n1,w1,r1,hr1,s1,hw1,k1⟩:=Ahead.op (S:=sctx noT ws) sok rfl h0 hcs hpl hfn (o:=fo1 j) rfl rfl (fc_ok hj) hv0 hw0;obtain ⟨u1,hu1,rfl⟩:=value_of hr1;have e1:=field_run (a:=a.add (i*4)) hj w0;rw [show (Instr.fieldAt 133 (.pointer (some (a.add (i*4)))) j).run Tryzx.prog w0 = .ok u1 w1 from hu1] at e1;cases e1;obtain ⟨hv1,h1⟩:=k1 _ rfl;obtain ⟨n2,w2,r2,hr2,s2,hw2,k2⟩:=Ahead.op (S:=sctx noT ws) sok rfl h1 hcs hpl hfn (o:=fo2) rfl rfl fc_ok2 hv1 hw1;obtain ⟨u2,hu2,rfl⟩:=value_of hr2;have hblk:∀ a':Addr,VR (sctx noT ws) r1 (.pointer (some a')) (.pointer (some a'))→(∃ c t z,w0.heap[a'.block]?=some (.cells c t z)) ∨ (∃ es k,w0.heap[a'.block]?=some (.map es k)) ∨ (∃ p l,w0.heap[a'.block]?=some (.number p l)) ∨ (∃ cap x cl s q tm,w0.heap[a'.block]?=some (.chan cap x cl s q tm)):=fun a' ha=>by
  cases ha with
  | ptr hab=>exact hw1.kind hab.1
 obtain ⟨hc2,rfl⟩:=load_run (hblk _ (hv1.get 6 _ _ rfl rfl)) hu2;obtain ⟨hv2,h2⟩:=k2 _ rfl;obtain ⟨n3,w3,r3,hr3,s3,hw3,k3⟩:=Ahead.op (S:=sctx noT ws) sok rfl h2 hcs hpl hfn (o:=fo3) rfl rfl fc_ok3 hv2 hw2;obtain ⟨u3',hu3,rfl⟩:=value_of hr3;have hm:∃ x,u2 = .int .i64 x∧w3=w2:=by
  exact mul_int (eqGuard_mul hu3)
 obtain ⟨y,rfl,rfl⟩:=hm;obtain ⟨hv3,h3⟩:=k3 _ rfl;exact ⟨a,y,rfl,hi,hc2,_,_,_,_,r3,h3.regionEnd hcs,hv3,hw3⟩
def lo1 : Oper := { dst := some 4, op := .binOp .lss 3 (.tmp 1) (.tmp 2) 3, type := 4, pos := "", after := #[], guard := none }
def lo2 : Oper := { dst := some 1, op := .binOp .add 3 (.tmp 1) (.const (.int .i64 1)) 3, type := 3, pos := "", after := #[], guard := none }
def so0 : Oper := { dst := some 1, op := .move (.const (.int .i64 0)), type := 3, pos := "", after := #[], guard := none }
def so1 : Oper := { dst := some 2, op := .call { callee := .builtin .len, args := #[.tmp 0], argTypes := #[103] }, type := 3, pos := "", after := #[], guard := none }
def so2 : Oper := { dst := some 3, op := .binOp .lss 3 (.tmp 2) (.const (.int .i64 1048577)) 3, type := 4, pos := "", after := #[{ on := 1, ground := .data }], guard := none }
def no1 : Oper := { dst := some 11, op := .binOp .eql 3 (.tmp 2) (.const (.int .i64 0)) 3, type := 4, pos := "", after := #[], guard := none }
def no2 : Oper := { dst := some 12, op := .binOp .eql 103 (.tmp 0) (.const (.slice none 0 0)) 103, type := 4, pos := "", after := #[], guard := none }
def roundC:Code := .seq (.region 1 #[lo1] false) (.seq (.cond (.tmp 4) .skip (.exit 0)) (.seq (fcode 2 0) (.seq (fcode 3 1) (.seq (fcode 4 2) (.seq (fcode 5 3) (.region 6 #[lo2] false))))))
def preC:Code := .seq (.region 0 #[so0,so1,so2] false) (.seq (.cond (.tmp 3) .skip (.exit 9)) (.seq (.block 0 (.loop roundC)) (.seq (.region 9 #[no1] false) (.cond (.tmp 11) (.seq (.region 10 #[no2] false) (.cond (.tmp 12) .skip (.exit 9))) .skip))))
theorem body_form:Tryzx.bodyX = .seq preC (.seq Tryzx.rd3 (.seq Tryzx.rd4 .ret)):=rfl
theorem lss_run (x y:Int) (w:World):(binOp .lss 3 (.int .i64 x) (.int .i64 y)).run Tryzx.prog w = .ok (.bool (decide (x<y))) w:=by
 simp [binOp,Op.intCmp]
theorem loop_ahead {A:Option Addr} {n c:Nat} (hn:n≤1048576) (hcs:cs ≠ []) (hpl:∀ c ∈ cs,PlainF Tryzx.prog c):∀ (m:Nat) {i:Nat} {r:Ren} {u3 u4 u5 u6 u7 u8 u9 u10 u11 u12:Value},n - i=m→i≤n →
  Ahead Tryzx.prog ((base 87).at ⟨T13 (.slice A n c) (.int .i64 i) (.int .i64 n) u3 u4 u5 u6 u7 u8 u9 u10 u11 u12,[]⟩ (.code roundC :: .inLoop roundC :: .inBlock 0 :: k)) (cs ++ [Xb]) w →
  VAll (sctx noT ws) r (T13 (.slice A n c) (.int .i64 i) (.int .i64 n) u3 u4 u5 u6 u7 u8 u9 u10 u11 u12) (T13 (.slice A n c) (.int .i64 i) (.int .i64 n) u3 u4 u5 u6 u7 u8 u9 u10 u11 u12)→WR (sctx noT ws) r w w →
  (∀ x,i≤x→x<n→∀ j,j<4→∃ a y,A=some a∧w.cell? ((a.add (x*4)).add j)=some (.int .i64 y)) ∧
  ∃ u4 u5 u6 u7 u8,Ahead Tryzx.prog ((base 87).at ⟨T13 (.slice A n c) (.int .i64 n) (.int .i64 n) u3 u4 u5 u6 u7 u8 u9 u10 u11 u12,[]⟩ k) (cs ++ [Xb]) w:=by
 intro m;induction m with
 | zero =>
  intro i r u3 u4 u5 u6 u7 u8 u9 u10 u11 u12 hm hi h hv hw;obtain rfl:i=n:=by omega
  have h:=((h.seq hcs).region hcs).val (o:=lo1) hcs rfl rfl (v := .bool false) (w1:=w) (by
   show (binOp .lss 3 (.int .i64 i) (.int .i64 i) >>= fun v=>pure (Next.value v)).run Tryzx.prog w=_
   rw [Sem.run_bind,lss_run]
   simp)
  have h:=((h.regionEnd hcs).seq hcs).cond hcs (t:=false) rfl;have h:=h.go hcs (step_exit (k':=k) rfl);exact ⟨fun x h1 h2=>absurd h2 (by omega),_,_,_,_,_,h⟩
 | succ m ih =>
  intro i r u3 u4 u5 u6 u7 u8 u9 u10 u11 u12 hm hi h hv hw;have hlt:i<n:=by omega
  have h:=((h.seq hcs).region hcs).val (o:=lo1) hcs rfl rfl (v := .bool true) (w1:=w) (by
   show (binOp .lss 3 (.int .i64 i) (.int .i64 n) >>= fun v=>pure (Next.value v)).run Tryzx.prog w=_
   rw [Sem.run_bind,lss_run];simp [hlt])
  have h:=(((h.regionEnd hcs).seq hcs).cond hcs (t:=true) rfl).skip hcs;have hv4:=hv.set 4 (VR.bool (C:=sctx noT ws) (r:=r) true);obtain ⟨a0,y0,e0,_,c0,p5,p6,p7,p8,r0,h0,hv0,hw0⟩:=fc_ahead (j:=0) (by omega) hcs hpl (h.seq hcs) hv4 hw;obtain ⟨a1,y1,e1,_,c1,q5,q6,q7,q8,r1,h1,hv1,hw1⟩:=fc_ahead (j:=1) (by omega) hcs hpl (h0.seq hcs) hv0 hw0;obtain ⟨a2,y2,e2,_,c2,s5,s6,s7,s8,r2,h2,hv2,hw2⟩:=fc_ahead (j:=2) (by omega) hcs hpl (h1.seq hcs) hv1 hw1;obtain ⟨a3,y3,e3,_,c3,t5,t6,t7,t8,r3,h3,hv3,hw3⟩:=fc_ahead (j:=3) (by omega) hcs hpl (h2.seq hcs) hv2 hw2;have h:=(h3.region hcs).val (o:=lo2) hcs rfl rfl (v := .int .i64 (i+1:Nat)) (w1:=w) (by
   show (binOp .add 3 (.int .i64 i) (.int .i64 1) >>= fun v=>pure (Next.value v)).run Tryzx.prog w=_
   have e:IntKind.i64.wrap ((i:Int)+1)=((i+1:Nat):Int):=by rw [IntWalk.i64_in _ (by omega)]; omega
   simp [binOp,Op.intArith,e,Sem.run_bind])
  have h:=(h.regionEnd hcs).go hcs step_inLoop;have hv5:=hv3.set 1 (VR.int (C:=sctx noT ws) (r:=r3) .i64 ((i+1:Nat):Int));obtain ⟨k1,k2⟩:=ih (i:=i+1) (by omega) (by omega) h hv5 hw3;refine ⟨fun x hx1 hx2 j hj => ?_,k2⟩;by_cases ex:x=i
  ·subst ex
   match j,hj with
   | 0,_=>exact ⟨a0,y0,e0,c0⟩
   | 1,_=>exact ⟨a1,y1,e1,c1⟩
   | 2,_=>exact ⟨a2,y2,e2,c2⟩
   | 3,_=>exact ⟨a3,y3,e3,c3⟩
  ·exact k1 x (by omega) hx2 j hj
theorem len_run {x:Value} {w w1:World} {u:Value} (h:(Builtin.len_ #[103] 3 #[x]).run Tryzx.prog w = .ok u w1):∃ A n c,x = .slice A n c∧u = .int .i64 n∧w1=w:=by
 cases x with
 | slice A n c =>
  simp [Builtin.len_,Tryz.underlying103,goInt] at h;exact ⟨A,n,c,rfl,h.1.symm,h.2.symm⟩
 | _=>simp [Builtin.len_,Tryz.underlying103,stuck] at h
theorem so0_ok:okOp Tryz.prog.toTables lawF lawD so0=true:=by decide +kernel
theorem so1_ok:okOp Tryz.prog.toTables lawF lawD so1=true:=by decide +kernel
theorem enterX (x:Value):Frame.enter Tryzx.prog 87 #[x] .normal=(base 87).at ⟨T13 x undef undef undef undef undef undef undef undef undef undef undef undef,[]⟩ [.code Tryzx.bodyX]:=by
 rw [enter_at (P:=Tryzx.prog) #[x] Tryzx.func87 (c:=Tryzx.bodyX) rfl,Tryzx.ntmps87];rfl
theorem cells_list {w:World} {blk off m:Nat} (h:∀ k,k<m→∃ y,w.cell? ⟨blk,off+k,none⟩=some (.int .i64 y)):∃ xs:List Int,xs.length=m∧∀ k,k<m→w.cell? ⟨blk,off+k,none⟩=some (.int .i64 (nth xs k)):=by
 induction m with
 | zero=>exact ⟨[],rfl,fun k hk=>absurd hk (by omega)⟩
 | succ m ih =>
  obtain ⟨xs,h1,h2⟩:=ih fun k hk=>h k (by omega)
  obtain ⟨y,hy⟩:=h m (by omega);refine ⟨xs ++ [y],by simp [h1],fun k hk => ?_⟩;by_cases e:k=m
  ·subst e
   have:=nth_right xs [y] 0;rw [Nat.add_zero,h1] at this;rw [this,hy];rfl
  ·rw [nth_left xs [y] (by omega)]
   exact h2 k (by omega)
set_option maxRecDepth 100000 in
theorem inv_rows {x:Value} (hcs:cs ≠ []) (hpl:∀ c ∈ cs,PlainF Tryzx.prog c) (h:Ahead Tryzx.prog (Frame.enter Tryzx.prog 87 #[x] .normal) (cs ++ [Xb]) w)
  (hx:VR (sctx noT ws) r x x) (hw:WR (sctx noT ws) r w w):∃ A n c xs,x = .slice A n c∧RowsIn A n xs w:=by
 have hfn:∃ fn,(sctx noT ws).Px.funcs[(87:Nat)]?=some fn:=⟨_,Tryzx.func87⟩;rw [enterX,body_form] at h;have hu:=vr_undef (C:=sctx noT ws) (r:=r);have hv0:VAll (sctx noT ws) r (T13 x undef undef undef undef undef undef undef undef undef undef undef undef) (T13 x undef undef undef undef undef undef undef undef undef undef undef undef):=by
  have:=(VAll.one hx).append (VAll.replicate 12 hu);exact this
 obtain ⟨n0,w0,r0,hr0,s0,hw0,k0⟩:=Ahead.op (S:=sctx noT ws) sok rfl (((h.seq hcs).seq hcs).region hcs) hcs hpl hfn (o:=so0) rfl rfl so0_ok hv0 hw;have e0:(execOp (Act.mk (T13 x undef undef undef undef undef undef undef undef undef undef undef undef) []).eval so0).run Tryzx.prog w = .ok (.value (.int .i64 0)) w:=rfl;rw [show (sctx noT ws).Px=Tryzx.prog from rfl,e0] at hr0;cases hr0;obtain ⟨hv1,h1⟩:=k0 _ rfl;obtain ⟨n1,w1,r1,hr1,s1,hw1,k1⟩:=Ahead.op (S:=sctx noT ws) sok rfl h1 hcs hpl hfn (o:=so1) rfl rfl so1_ok hv1 hw0;have e1:execOp (Act.mk (T13 x (.int .i64 0) undef undef undef undef undef undef undef undef undef undef undef) []).eval so1=(Builtin.len_ #[103] 3 #[x] >>= fun v=>pure (Next.value v)):=by
  simp [execOp,so1,resolve,invoke,builtin];rfl
 have hr1':(Builtin.len_ #[103] 3 #[x] >>= fun v=>pure (Next.value v)).run Tryzx.prog w = .ok n1 w1:=by rw [← e1]; exact hr1
 obtain ⟨u1,hu1,rfl⟩:=value_of hr1';obtain ⟨A,n,c,rfl,rfl,rfl⟩:=len_run hu1;obtain ⟨hv2,h2⟩:=k1 _ rfl;have h3:=h2.val (o:=so2) hcs rfl rfl (v := .bool (decide ((n:Int)<1048577))) (by
  show (binOp .lss 3 (.int .i64 n) (.int .i64 1048577) >>= fun v=>pure (Next.value v)).run Tryzx.prog w1=_
  rw [Sem.run_bind,lss_run]
  rfl)
 have h4:=((h3.regionEnd hcs).seq hcs).cond hcs rfl;by_cases hn:(n:Int)<1048577
 rotate_left
 ·rw [decide_eq_false hn] at h4
  exact (h4.no_exit hcs rfl).elim
 rw [decide_eq_true hn] at h4;have h5:=(((h4.skip hcs).seq hcs).go hcs step_block).go hcs step_loop;have hv3:=hv2.set 3 (VR.bool (C:=sctx noT ws) (r:=r1) true);have hnn:n≤1048576:=by omega
 obtain ⟨hcell,u4,u5,u6,u7,u8,h6⟩:=loop_ahead hnn hcs hpl n (i:=0) (by omega) (by omega) h5 hv3 hw1;have h7:=((h6.seq hcs).region hcs).val (o:=no1) hcs rfl rfl (v := .bool ((n:Int) == 0)) (w1:=w1) (by
  show (binOp .eql 3 (.int .i64 n) (.int .i64 0) >>= fun v=>pure (Next.value v)).run Tryzx.prog w1=_
  rw [Sem.run_bind];simp [binOp,Op.intCmp])
 have h8:=(h7.regionEnd hcs).cond hcs rfl;refine ⟨A,n,c,?_⟩;by_cases h0:n=0
 ·subst h0
  have h9:=((h8.seq hcs).region hcs).val (o:=no2) hcs rfl rfl (v := .bool A.isNone) (w1:=w1) (by
   show (binOp .eql 103 (.slice A 0 c) (.slice none 0 0) >>= fun v=>pure (Next.value v)).run Tryzx.prog w1=_
   rw [Sem.run_bind,run_eqNil ((Tryzx.underlying_x _).trans Tryz.underlying103)]
   rfl)
  have h10:=(h9.regionEnd hcs).cond hcs rfl;cases A with
  | some a=>exact (h10.no_exit hcs rfl).elim
  | none=>exact ⟨[],rfl,by omega,rfl,.inl ⟨rfl,rfl⟩⟩
 ·obtain ⟨a,y,rfl,ha⟩:=hcell 0 (by omega) (by omega) 0 (by omega)
  obtain ⟨blk,off,spot⟩:=a;have hsp:spot=none:=by
   cases spot with
   | none=>rfl
   | some sp =>
    exfalso
    unfold World.cell? at ha;split at ha
    ·simp [Addr.add] at ha
    ·cases ha
  subst hsp;obtain ⟨xs,hx1,hx2⟩:=cells_list (w:=w1) (blk:=blk) (off:=off) (m:=4*n) fun kk hk=>by
   obtain ⟨a,y,ea,hy⟩:=hcell (kk / 4) (by omega) (by omega) (kk % 4) (by omega);cases ea;rw [Go.WideShapes.add_plain,Go.WideShapes.add_plain,show off+kk / 4*4+kk % 4=off+kk by omega] at hy;exact ⟨y,hy⟩
  exact ⟨xs,rfl,hnn,by omega,.inr ⟨by omega,blk,off,rfl,hx2⟩⟩
end
end Rn
namespace Rn
open Go.Conc
theorem stepG_leave0 {P:Program} {f:FuncId} {ts:Array Value} {todo:List Item} {w w1:World} {fn:Func} {v:Value} (hf:P.funcs[f]?=some fn) (hi:P.inits.idxOf? f=none) (hr:(results fn ts).run P w = .ok v w1) :
  stepG P true (G (fra f ts todo true) []) w = .ended (.done v) w1 (seen P f ((results fn ts).events P w #[])):=by
 simp [G,fra,stepG,unwind,doReturn,Frame.at,base,hf,hr,hi,GStep.after]
theorem end_step {C:Ctx} (ok:CtxOk C) {r:Ren} {f f':Frame} {w v:World} {x:Value} (hf:FrR C r f f') (hw:WR C r w v) (ht:TE w v) (hl:f.leaving C.Px w (.returned x)) (hi:C.P.inits.idxOf? f.fn=none) :
  ∃ y v1 es r1,stepG C.P true (G f' []) v = .ended (.done y) v1 es∧Ext C r w v r1 w v1∧WR C r1 w v1∧(∀ e ∈ es,EvOk C r1 e)∧VR C r1 x y:=by
 cases hf with
 | @mk fid ts ts' todo todo' m hF hv hk =>
  obtain ⟨hm,_,_,fn,hfn,hres⟩:=hl;cases m with
  | false=>cases hm
  | true =>
   obtain ⟨fn',bd,h1,h2⟩:=hF.body;have h1':C.P.funcs[fid]?=some fn':=by rw [← h1]; exact hF.same
   have e:fn=fn':=Option.some.inj (hfn.symm.trans h1);subst e;have sim:=Sim.results fn (ok.res _ _ h1) hv w v #[] #[] hw ht (by simp);generalize hx:(results fn ts).runT C.Px w #[]=rx at sim;obtain ⟨R,es0⟩:=rx;have hrun:(results fn ts).run C.Px w=R:=by rw [← Sem.runT_fst _ _ _ #[],hx]
   have hres':(results fn ts).run C.Px w = .ok x w:=hres;rw [hrun] at hres';subst hres';obtain ⟨y,v1,fs1,r1,e1,x1,hw1,ht1,hf1,q1⟩:=sim.1 _ _ _ rfl;have hrun1:(results fn ts').run C.P v = .ok y v1:=by rw [← Sem.runT_fst _ _ _ #[],e1]
   exact ⟨y,v1,_,r1,stepG_leave0 h1' hi hrun1,x1,hw1,fun f1 hf1'=>hf1 f1 (by have:=mem_seen hf1'; rw [Sem.events,e1] at this; exact this),q1⟩
section
variable {C : Ctx} {r : Ren} {w v w2 v2 : World}
theorem WR.tpR (h:WR C r w v) (t:Tp) (d:Nat):WR C r w (v.tp t d):=⟨h.lt,h.fn,h.inj,h.obj,h.win,h.winG,h.glob,h.big,h.shz,h.roLt,h.noInfo⟩
theorem WR.atR (h:WR C r w v) (d:Nat):WR C r w (v.at d):=⟨h.lt,h.fn,h.inj,h.obj,h.win,h.winG,h.glob,h.big,h.shz,h.roLt,h.noInfo⟩
theorem WR.grow (h:WR C r w v) (sl:w.heap.size≤w2.heap.size) (sr:v.heap.size≤v2.heap.size) (hl:∀ a,a<w.heap.size→w2.heap[a]?=w.heap[a]?) (hr:∀ b,b<v.heap.size→v2.heap[b]?=v.heap[b]?):WR C r w2 v2 where
 lt a b ab:=⟨Nat.lt_of_lt_of_le (h.lt a b ab).1 sl,Nat.lt_of_lt_of_le (h.lt a b ab).2 sr⟩
 fn:=h.fn
 inj:=h.inj
 obj a b ab ho:=by rw [hl a (h.lt a b ab).1,hr b (h.lt a b ab).2]; exact h.obj a b ab ho
 win a b ab ho:=by rw [hl a (h.lt a b ab).1,hr b (h.lt a b ab).2]; exact h.win a b ab ho
 winG:=h.winG
 glob:=h.glob
 big:=⟨Nat.le_trans h.big.1 sl,Nat.le_trans h.big.2 sr⟩
 shz:=h.shz
 roLt a ha:=Nat.lt_of_lt_of_le (h.roLt a ha) sl
 noInfo:=h.noInfo
theorem WR.pair (h:WR C r w v) {g g':Nat} (lg:g<w.heap.size) (lg':g'<v.heap.size) (ng:∀ b,¬ r g b) (ng':∀ a,¬ r a g') (hro:¬ C.RO g) (hG:C.tb.globals.size≤g∧C.tb.globals.size≤g') (ho:OR C (r.ext g g') (w.heap[g]?) (v.heap[g']?)):WR C (r.ext g g') w v where
 lt a b ab:=by
  rcases ab with ab | ⟨rfl,rfl⟩
  ·exact h.lt a b ab
  ·exact ⟨lg,lg'⟩
 fn a b b' k k':=by
  rcases k with k | ⟨e1,e2⟩ <;> rcases k' with k' | ⟨e1',e2'⟩
  ·exact h.fn _ _ _ k k'
  ·subst e1'; exact absurd k (ng _)
  ·subst e1; exact absurd k' (ng _)
  ·exact e2.trans e2'.symm
 inj a a' b k k':=by
  rcases k with k | ⟨e1,e2⟩ <;> rcases k' with k' | ⟨e1',e2'⟩
  ·exact h.inj _ _ _ k k'
  ·subst e2'; exact absurd k (ng' _)
  ·subst e2; exact absurd k' (ng' _)
  ·exact .inl (e1.trans e1'.symm)
 obj a b ab hr:=by
  rcases ab with ab | ⟨rfl,rfl⟩
  ·exact (h.obj a b ab hr).mono (Ren.sub_ext _ _ _)
  ·exact ho
 win a b ab hr:=by
  rcases ab with ab | ⟨rfl,rfl⟩
  ·exact (h.win a b ab hr).mono (Ren.sub_ext _ _ _)
  ·exact absurd hr hro
 winG a b ab hr:=by
  rcases ab with ab | ⟨rfl,rfl⟩
  ·exact h.winG a b ab hr
  ·exact hG.1
 glob a b ab hr hx:=by
  rcases ab with ab | ⟨rfl,rfl⟩
  ·exact h.glob a b ab hr hx
  ·have:=hG.1; have:=hG.2; omega
 big:=h.big
 shz:=h.shz
 roLt:=h.roLt
 noInfo:=h.noInfo
end
section
variable {noT : TypeId} {ws : List Win} {r : Ren} {w v : World}
theorem rows_real (hw:WR (gctx noT ws) r w v) {A:Option Addr} {n c:Nat} {xs:List Int} {x':Value} (hx:VR (gctx noT ws) r (.slice A n c) x') (hin:RowsIn A n xs w) :
  ∃ A',x' = .slice A' n c∧RowsIn A' n xs v∧∀ a,A'=some a→∃ b,r b a.block:=by
 obtain ⟨hn,hl,h⟩:=hin;cases hx with
 | sl0 n c =>
  rcases h with ⟨rfl,_⟩ | ⟨_,blk,off,e,_⟩
  ·exact ⟨none,rfl,⟨hn,hl,.inl ⟨rfl,rfl⟩⟩,fun a e=>by cases e⟩
  ·cases e
 | slE a b =>
  rcases h with ⟨_,e⟩ | ⟨h1,_⟩
  ·cases e
  ·omega
 | @sl a b n c hab =>
  rcases h with ⟨_,e⟩ | ⟨h1,blk,off,e,hc⟩
  ·cases e
  cases e;obtain ⟨k,e1,e2⟩:=hab;obtain ⟨b0,b1,b2⟩:=b;simp only at k e1 e2;subst e1; subst e2;refine ⟨_,rfl,⟨hn,hl,.inr ⟨h1,b0,_,rfl,fun j hj => ?_⟩⟩,fun a e=>by cases e; exact ⟨_,k⟩⟩;obtain ⟨y,hy,hv⟩:=hw.cell (a:=⟨blk,off+j,none⟩) (b:=⟨b0,off+j+(gctx noT ws).sh blk,none⟩) ⟨k,rfl,rfl⟩ (hc j hj);cases hv;rw [show off+(gctx noT ws).sh blk+j=off+j+(gctx noT ws).sh blk by omega];exact hy
theorem x_cornL0:X.cornL=cornL:=by kernel_rfl
theorem x_cornL (xs:List Int) (n:Nat):X.cornL xs n=cornL xs n:=by rw [x_cornL0]
theorem x_cornN (xs:List Int) (n:Nat):X.cornN xs n=cornN xs n:=by unfold X.cornN cornN; rw [x_cornL0]
def LoneV (rs:List Int) (n:Nat) (cc base:Nat) (y:Value) (w:World):Prop :=
 (y = .slice none 0 0∧cornL rs n = []) ∨ ∃ g,base≤g∧g<w.heap.size∧1≤cornN rs n∧y = .slice (some ⟨g,0,none⟩) (cornN rs n) cc ∧
  w.heap[g]?=some (.cells (((cornL rs n).map (Value.int .i64)).toArray ++ Builtin.zeroCells #[.int .i64 0,.int .i64 0,.int .i64 0,.int .i64 0] (cc - cornN rs n)) 66 (0,0))
theorem lone_call (hw:WR (gctx noT ws) r w v) {A:Option Addr} {n c:Nat} {xs:List Int} {x':Value} (hx:VR (gctx noT ws) r (.slice A n c) x') (hin:RowsIn A n xs w) {cc:Nat} (h1:cornN xs n≤cc) (h2:cc≤maxLen) (f:Frame) (L:List Frame) :
  ∃ m N w' y,1≤N∧Path Tryzx.prog ⟨Frame.enter Tryzx.prog 87 #[.slice A n c] .normal,f :: L,w⟩ m N ⟨f.finish y,L,w'⟩∧LoneV xs n cc w.heap.size y w'∧w.heap.size≤w'.heap.size∧∀ a,a<w.heap.size→w'.heap[a]?=w.heap[a]?:=by
 let T:Tp:=fun _ q=>match q with | .appendCap _ _ _=>cc - cornN xs n | _=>0
 obtain ⟨hn,hl,h⟩:=hin;have hrec:RecsAt (w.tp T 0) (w.tp T 0).heap.size 4 A n xs:=by
  refine ⟨hl,fun hp => ?_⟩;rcases h with ⟨e,_⟩ | ⟨_,blk,off,rfl,hc⟩
  ·omega
  ·refine ⟨blk,off,rfl,?_,fun i hi=>hc i (by omega)⟩
   obtain ⟨_,_,_,k,_⟩:=cells_of (hc 0 (by omega));exact (Array.getElem?_eq_some_iff.1 k).1
 have hcall:=X.xCorners_any A n c xs (w.tp T 0) hrec hn (fun e=>by
  rcases h with ⟨_,e2⟩ | ⟨h1,_⟩
  ·exact e2
  ·omega)
 obtain ⟨e,w',fr,⟨y,rfl,hend,hbel⟩,⟨K,hK⟩,hfn,hlv⟩:=hcall [Xb];have hself:FrR (sctx noT ws) (dg r) (Frame.enter Tryzx.prog 87 #[.slice A n c] .normal) (Frame.enter Tryzx.prog 87 #[.slice A n c] .normal) :=
  enter_FrR (C:=sctx noT ws) cfine (VAll.one (vr_self hx))
 obtain ⟨m,hL,ht,hd,_⟩:=self_run (C:=sctx noT ws) (X:=f :: L) sok rfl sfine (b:=false) (fr:=fr) (w':=w') (x:=y) (.inl ⟨rfl,hlv⟩) K (cs := []) hself (fun c hc=>by simp at hc) (((wr_self hw).tp T 0).tpR T 0) hK;have hret:∀ t d,step Tryzx.prog (lone fr (f :: L) (w'.tp t d)) = .next (lone (f.finish y) L (w'.tp t d)):=fun t d=>by
  refine step_leave_returned ?_;obtain ⟨k1,k2,k3,fn,k4,k5⟩:=hlv;refine ⟨k1,k2,k3,fn,k4,?_⟩;rw [hfn,Tryzx.func87] at k4;obtain rfl:=Option.some.inj k4;have e:∀ u:World,(results Tryzx.f87 fr.tmps).run Tryzx.prog u = .ok (fr.tmps.getD 10 undef) u:=fun u=>results_tmp rfl _ _ _
  rw [e] at k5 ⊢;cases k5;rfl
 refine ⟨m,K+1,w',y,by omega,⟨T,0,fun t' d' ha => ?_⟩,?_,hbel.size,fun a ha=>hbel.block a ha⟩
 ·have h3:=hL t' d' ha
  rw [runN_add,show (St.at ⟨Frame.enter Tryzx.prog 87 #[.slice A n c] .normal,f :: L,w⟩ t' d')=St.at ⟨Frame.enter (sctx noT ws).Px 87 #[.slice A n c] .normal,[] ++ f :: L,w.tp T 0⟩ t' d' from rfl];rw [show runN Tryzx.prog K (St.at ⟨Frame.enter (sctx noT ws).Px 87 #[.slice A n c] .normal,[] ++ f :: L,w.tp T 0⟩ t' d')=_ from h3];simp only [runN,St.at,hret]
 ·rcases hend with ⟨rfl,hnil⟩ | ⟨g,d,hg,hq,rfl,hh⟩
  ·exact .inl ⟨rfl,(x_cornL xs n).symm.trans hnil⟩
  ·rw [x_cornL,x_cornN] at hh
   rw [x_cornN] at hq;rw [x_cornN];have hT:w'.tape=T:=hbel.tape;have hcc:capOf w'.tape d (cornN xs n) 66=cc:=by rw [hT]; exact capOf_set _ h1 h2 d
   rw [hcc] at hh ⊢;exact .inr ⟨g,hg,(Array.getElem?_eq_some_iff.1 hh).1,hq,rfl,hh⟩
end
end Rn
namespace Rn
open Go.Conc
open Go.ConcN (sumTo upd sumTo_upd upd_ne upd_same)
open Go.ConcR (g_of_ofEvents)
def Quiet0 (u:Trace):Prop:=∀ op ∈ u,op.g=0∧op.act.touch?=none∧∀ m,op.act ≠ .mark m
theorem Rdy.crowd {P:Program} {gs:Array Goroutine} {f:Frame} {L:List Frame} {w w1 w2:World} {sl:Option (Nat × Nat)} {es:Array Event} {c:CommCase} {sh:CommShape} {x:Value} (h:Rdy c sh w1 x w2)
  (hi:gs[0]?=some (G f L)) (hs:stepG P true (G f L) w = .comm (G f L) #[c] true sh w1 es) (hp:∀ (j:Nat) (g:Goroutine),0<j→gs[j]?=some g→g.status ≠ .blocked) :
  ∃ more,runT P (crowd gs w sl) 0=(.next (crowd (gs.setIfInBounds 0 (G (f.finish x) L)) w2 sl),MemOp.ofEvents 0 f.fn f.place es ++ more)∧Quiet0 more:=by
 have hpn:∀ (r:Nat) (send:Bool),partners (gs.setIfInBounds 0 ph) r send = []:=fun r send=>partners_nil fun j g hg=>by
  rcases getElem?_stand gs 0 j g hg with ⟨_,rfl⟩ | ⟨hj,hg'⟩
  ·exact offersAt_ph r send
  ·exact offersAt_of_not_blocked (hp j g (by omega) hg') r send
 cases h with
 | send h1 h2 =>
  refine ⟨_,crowd_send_room (sl:=sl) hi hs h1 h2 (hpn _ _),fun op hop => ?_⟩;simp only [List.mem_toArray,List.mem_cons,List.not_mem_nil,or_false] at hop;rcases hop with rfl | rfl <;> exact ⟨rfl,rfl,fun m e=>by cases e⟩
 | recv ok h1 h2 =>
  cases ok <;> exact ⟨_,crowd_recv_buf (sl:=sl) hi hs h1 h2 (hpn _ _),fun op hop=>by
   simp only [List.mem_toArray,List.mem_cons,List.not_mem_nil,or_false] at hop;rcases hop with rfl | rfl <;> exact ⟨rfl,rfl,fun m e=>by cases e⟩⟩
 | shut ok h1 =>
  cases ok <;> exact ⟨_,crowd_recv_closed (sl:=sl) hi hs h1 (hpn _ _),fun op hop=>by
   simp only [List.mem_toArray,List.mem_cons,List.not_mem_nil,or_false] at hop;subst hop;exact ⟨rfl,rfl,fun m e=>by cases e⟩⟩
section
variable {P : Program} {SB : Bl} {t u : Trace}
theorem Deaf_quiet (h:Quiet0 u):Deaf (t ++ u) 0=Deaf t 0:=by
 obtain ⟨l⟩:=u;rw [Deaf_append];induction l generalizing t with
 | nil=>rfl
 | cons y l ih =>
  have hy:=(h y (by simp)).2.2;have e:deafStep 0 (Deaf t 0) y=Deaf t 0:=by
   unfold deafStep;split
   ·rename_i e; exact absurd e (hy _)
   ·rename_i e; exact absurd e (hy _)
   ·rfl
  rw [List.foldl_cons,e];exact ih fun op hop=>h op (by simp only [List.mem_toArray] at hop ⊢; exact List.mem_cons_of_mem _ hop)
theorem PastO.appQuiet (h:PastO SB t) (hu:Quiet0 u):PastO SB (t ++ u):=by
 refine ⟨fun said=>noRace_append (h.clean said) (fun op hop=>(hu op hop).1) fun i a _ op hop b hb _=>(by rw [(hu op hop).2.1] at hb; cases hb),fun i a ha hm => ?_,handedOver_app h.over fun op hop => .inr (hu op hop).2.1,(Deaf_quiet hu).trans h.hears⟩;obtain ⟨x,hx,hxa⟩:=touch_of ha;rcases getElem?_append_cases hx with ⟨_,hx'⟩ | ⟨_,hxu⟩
 ·exact (h.known i a (by rw [touchAt_of hx']; exact hxa) hm).imp (·.app u) id
 ·rw [(hu x hxu).2.1] at hxa; cases hxa
def Next0 (P:Program) (SB:Bl) (f:Frame) (L:List Frame) (w:World) (K:Goroutine→World→Prop) (u:World):Prop :=
 (∃ a' w' es,stepG P true (G f L) u = .go a' w' es∧w.heap.size≤w'.heap.size∧(∀ e ∈ es,EvC SB w'.heap.size e)∧K a' w') ∨
 (∃ c sh x w1 w2 es,stepG P true (G f L) u = .comm (G f L) #[c] true sh w1 es∧Rdy c sh w1 x w2∧w.heap.size≤w2.heap.size∧(∀ e ∈ es,EvC SB w2.heap.size e)∧K (G (f.finish x) L) w2)
theorem beside_both:∀ (M:Nat) {gs:Array Goroutine} {f:Frame} {L:List Frame} {w:World} {sl:Option (Nat × Nat)} {t:Trace} {q:Nat→Nat} {K:Nat→Goroutine→World→Prop},sumTo gs.size q≤M→Calm P SB gs w t→(∀ i g,0<i→gs[i]?=some g→QuitsD P (q i) (Deaf t i) g)→gs[0]?=some (G f L) →
  (∀ d,Next0 P SB f L w (K d) (w.at d)) →
  ∃ N gs' sl' t' d a' w',runNT P N (crowd gs w sl) t=(.next (crowd gs' w' sl'),t')∧runN P N (crowd gs w sl) = .next (crowd gs' w' sl')∧K d a' w'∧Calm P SB gs' w' t'∧gs'[0]?=some a'∧gs'.size=gs.size:=by
 intro M;have own:∀ {gs:Array Goroutine} {f:Frame} {L:List Frame} {w:World} {sl sl':Option (Nat × Nat)} {t:Trace} {q:Nat→Nat} {K:Nat→Goroutine→World→Prop} {d:Nat},Calm P SB gs w t→(∀ i g,0<i→gs[i]?=some g→QuitsD P (q i) (Deaf t i) g)→gs[0]?=some (G f L) →
   (∀ d,Next0 P SB f L w (K d) (w.at d))→stepT P (crowd gs w sl)=runT P (crowd gs (w.at d) sl') 0 →
   ∃ N gs' sl' t' d a' w',runNT P N (crowd gs w sl) t=(.next (crowd gs' w' sl'),t')∧runN P N (crowd gs w sl) = .next (crowd gs' w' sl')∧K d a' w'∧Calm P SB gs' w' t'∧gs'[0]?=some a'∧gs'.size=gs.size:=by
  intro gs f L w sl sl' t q K d hc hq h0 hstep hst;have hlt:0<gs.size:=(Array.getElem?_eq_some_iff.1 h0).1;rcases hstep d with ⟨a',w',es,hgo,hsz,hev,hk⟩ | ⟨c,sh,x,w1,w2,es,hgo,hr,hsz,hev,hk⟩
  ·have hrunT:=runT_crowd_go (P:=P) (sl:=sl') (i:=0) h0 (show stepG P (0 == 0) (G f L) (w.at d)=_ from hgo)
   have hstep':=hst.trans hrunT;obtain ⟨sn,nrl⟩:=seen_ofEvents (g:=0) (fn:=(G f L).frame.fn) (pos:=(G f L).frame.place) fun e he=>(hev e he).evB
   refine ⟨1,_,sl',_,d,a',w',by rw [runNT_succ_next hstep']; rfl,by rw [runN_succ_next hstep']; rfl,hk,⟨fun j x hj hx => ?_,fun j hj => ?_,hc.past.app0 hev,hc.seen.app hsz sn,hc.norel.app nrl,fun b hb=>Nat.lt_of_lt_of_le (hc.sb b hb) hsz⟩,by simp [hlt],by simp⟩
   ·rw [Array.getElem?_setIfInBounds_ne (by omega),Array.getElem?_map] at hx
    obtain ⟨y,hy,rfl⟩:=Option.map_eq_some_iff.1 hx;have hqj:=hq j y hj hy;refine ⟨q j,?_⟩;rw [woken_quitsD hqj,Deaf_other t (by omega) _ g_of_ofEvents];exact hqj
   ·rw [Deaf_other t (g':=0) (by simp at hj; omega) _ g_of_ofEvents]
    exact hc.above j (by simpa using hj)
  ·obtain ⟨more,hrunT,hmore⟩:=hr.crowd (sl:=sl') h0 hgo fun j g hj hg e=>by
    rcases (hq j g hj hg).status with h | h <;> rw [h] at e <;> cases e
   have hstep':=hst.trans hrunT;obtain ⟨sn,nrl⟩:=seen_ofEvents (g:=0) (fn:=f.fn) (pos:=f.place) fun e he=>(hev e he).evB
   have hg0:∀ op ∈ MemOp.ofEvents 0 f.fn f.place es ++ more,op.g=0:=fun op hop=>by
    rcases Array.mem_append.1 hop with h | h
    ·exact g_of_ofEvents op h
    ·exact (hmore op h).1
   have hpast:=(hc.past.app0 (fn:=f.fn) (pos:=f.place) hev).appQuiet hmore;rw [Array.append_assoc] at hpast;refine ⟨1,_,sl',_,d,G (f.finish x) L,w2,by rw [runNT_succ_next hstep']; rfl,by rw [runN_succ_next hstep']; rfl,hk,⟨fun j y hj hy => ?_,fun j hj => ?_,hpast,hc.seen.app hsz fun op hop a ha => ?_,hc.norel.app fun op hop a => ?_,fun b hb=>Nat.lt_of_lt_of_le (hc.sb b hb) hsz⟩,by simp [hlt],by simp⟩
   ·rw [Array.getElem?_setIfInBounds_ne (by omega)] at hy
    exact ⟨q j,by rw [Deaf_other t (g':=0) (by omega) _ hg0]; exact hq j y hj hy⟩
   ·rw [Deaf_other t (g':=0) (by simp at hj; omega) _ hg0]
    exact hc.above j (by simpa using hj)
   ·rcases Array.mem_append.1 hop with h | h
    ·exact sn op h a ha
    ·rw [(hmore op h).2.1] at ha; cases ha
   ·rcases Array.mem_append.1 hop with h | h
    ·exact nrl op h a
    ·exact (hmore op h).2.2 _
 induction M with
 | zero =>
  intro gs f L w sl t q K hM hc hq h0 hstep;rcases beside_any (sl:=sl) hc hq h0 rfl with ⟨d,sl',hst⟩ | ⟨_,_,_,_,_,_,_,_,_,_,_,hlt⟩
  ·exact own hc hq h0 hstep hst
  ·omega
 | succ M ih =>
  intro gs f L w sl t q K hM hc hq h0 hstep;rcases beside_any (sl:=sl) hc hq h0 rfl with ⟨d,sl',hst⟩ | ⟨gs1,d,sl1,t1,q1,e1,e2,hc1,hq1,h01,hs1,hlt⟩
  ·exact own hc hq h0 hstep hst
  ·obtain ⟨N,gs',sl',t',d',a',w',r1,r2,r3,r4,r5,r6⟩:=ih (sl:=sl1) (K:=K) (by rw [hs1]; omega) hc1 hq1 h01 fun d'=>hstep d'
   obtain ⟨k1,k2⟩:=runN_one_add (n:=N) e1 e2;exact ⟨1+N,gs',sl',t',d',a',w',k1.trans r1,k2.trans r2,r3,r4,r5,r6.trans hs1⟩
end
end Rn
namespace Rn
open Go.Conc
theorem evOk_evC {C:Ctx} {r:Ren} {SB:Bl} {B:Nat} {e:Event} (h:EvOk C r e) (hr:∀ a b,r a b→b<B∧¬ SB b):EvC SB B e:=by
 have plain:EvOwn (fun b=>∃ a,r a b) (fun _=>False) e→EvC SB B e:=fun k=>evOwn_evC k (fun b hb=>by
  rcases hb with ⟨a,ab⟩ | hb
  ·exact hr a b ab
  ·exact hb.elim)
 rcases h with ⟨hs,⟨q,hq,a,ab,_⟩ | ⟨b,hq,a,ab,_⟩⟩ | h | ⟨_,hs,b,hq,a,ab,_⟩
 ·exact plain (.inl ⟨hs,.inl ⟨q,hq,.inl ⟨a,ab⟩⟩⟩)
 ·exact plain (.inl ⟨hs,.inr ⟨b,hq,.inl ⟨a,ab⟩⟩⟩)
 ·exact plain (.inr h)
 ·obtain ⟨loc,wr,sy⟩:=e
  simp only at hs hq;subst hs;subst hq;have key:∀ x,(MemAct.ofEvent ⟨.obj b,wr,true⟩).touch?=some x→x.loc = .obj b:=fun x hx=>by
   cases wr <;> simp [MemAct.ofEvent,MemAct.touch?] at hx
   subst hx;rfl
  obtain ⟨k1,k2⟩:=hr a b ab;refine ⟨fun x hx c hc => ?_,fun x hx hd => ?_,by simp,by simp,by simp⟩
  ·rw [key x hx] at hc; cases hc; exact k1
  ·rw [key x hx] at hd
   obtain ⟨c,hc,hs⟩:=hd;cases hc;exact k2 hs
theorem Rel.comp {P:Program} {s s1 s2:St} (h:Rel P s1 s) {n N:Nat} (hp:Path P s1 n N s2):Rel P s2 s:=by
 obtain ⟨m,M,h1,h2⟩:=h;exact ⟨m+n,M+N,by omega,h2.trans hp⟩
theorem end_fn {P:Program} {s0:St} {f0:Nat} {R:Value→World→Prop} (hR:∀ t d,∃ K v w' fr,runN P K (s0.at t d) = .next (lone fr [Xb] w')∧R v w'∧fr.fn=f0∧fr.leaving P w' (.returned v))
  {n N:Nat} {f:Frame} {w:World} (hp:Path P s0 n N ⟨f,[Xb],w⟩) {u:Tp} {d:Nat} {x:Value} (he:f.leaving P (w.tp u d) (.returned x)):f.fn=f0:=by
 obtain ⟨t,h1,h2⟩:=hp.under u d;obtain ⟨K,v,w',fr,h3,_,h4,h5⟩:=hR t 0;have key:lone f [Xb] (w.tp t n)=lone fr [Xb] w'→f.fn=f0:=fun e=>by
  unfold lone at e;simp at e;obtain ⟨_,e2⟩:=e;rw [e2]; exact h4
 have hE:Ends P false fr w' v := .inl ⟨rfl,h5⟩;have hf:f.mode = .returning:=he.1;by_cases hK:K≤N
 ·have:=runN_add P K (N - K) (s0.at t 0)
  rw [show K+(N - K)=N by omega,h1,h3] at this;rcases run_past hE this.symm with ⟨_,e⟩ | ⟨_,e⟩
  ·exact key e
  ·exfalso
   unfold St.at lone at e;simp at e
 ·obtain ⟨j,rfl⟩:∃ j,K=N+(j+1):=⟨K - N - 1,by omega⟩
  rw [runN_add,h1] at h3;exfalso
  obtain ⟨k1,k2,k3,fn,k4,k5⟩:=he;have hs:∃ o w2,step P (lone f [Xb] (w.tp t n)) = .ended o w2 ∨ ∃ w3,step P (lone f [Xb] (w.tp t n)) = .next (lone Xb [] w3):=by
   cases hr:(results fn f.tmps).run P (w.tp t n) with
   | ok y w1=>exact ⟨.done undef,w,.inr ⟨w1,step_lone_go (by simp [stepG,unwind,doReturn,k1,k2,k3,k4,hr,Xb_finish])⟩⟩
   | halt hh wh =>
    have:∃ o w2,(stepG P true { frame:=f,callers := [Xb],status := .running,dying:=none } (w.tp t n)).bare = .ended o w2:=by
     cases hh <;> exact ⟨_,_,by simp [stepG,unwind,k1,k2,k4,hr]; first | rfl | exact ⟨rfl,rfl⟩⟩
    obtain ⟨o,w2,h⟩:=this;exact ⟨o,w2,.inl (step_lone_ended h)⟩
  obtain ⟨o,w2,hs⟩:=hs;simp only [St.at] at h3;simp only [runN] at h3;rcases hs with hs | ⟨w3,hs⟩
  ·rw [hs] at h3; cases h3
  ·rw [hs] at h3
   cases j with
   | zero =>
    simp only [runN] at h3;unfold lone at h3;simp at h3
   | succ j =>
    simp only [runN] at h3;cases hq:step P (lone Xb [] w3) with
    | next m=>exact absurd hq (step_Xb _ _ _)
    | ended o2 w4=>rw [hq] at h3; cases h3
section
variable {noT : TypeId} {ws : List Win}
theorem engine_loop (hno:Tryz.prog.toTables.info? noT=none) {R:Value→World→Prop} {s0:St} {f0:Nat}
  (hR0:∀ t d,∃ K v w' fr,runN Tryzx.prog K (s0.at t d) = .next (lone fr [Xb] w')∧R v w'∧fr.fn=f0∧fr.leaving Tryzx.prog w' (.returned v)) (hi0:Tryz.prog.inits.idxOf? f0=none) (v0:World) {Post:Value→World→Prop}
  (hpost:∀ r w x v y,VR (gctx noT ws) r x y→R x w→Stays (fun b=>b<v0.heap.size) v0 v→Post y v) :
  ∀ s,Acc (Rel Tryzx.prog) s→∀ {n N:Nat} {r:Ren} {f':Frame} {L':List Frame} {v:World} {gs:Array Goroutine} (sl:Option (Nat × Nat)) {t:Trace} {SB:Bl},Path Tryzx.prog s0 n N s→FrR (gctx noT ws) r s.f f'→LR (gctx noT ws) r [Xb] [] s.L L'→WR (gctx noT ws) r s.w v →
   Calm Tryz.prog SB gs v t→gs[0]?=some (G f' L')→(∀ a b,r a b→¬ SB b)→(∀ a b,r a b→¬ (gctx noT ws).RO a→v0.heap.size≤b)→Stays (fun b=>b<v0.heap.size) v0 v →
   ∃ M last o w' t',runNT Tryz.prog (M+1) (crowd gs v sl) t=(.ended o w',t')∧runN Tryz.prog M (crowd gs v sl) = .next last∧step Tryz.prog last = .ended o w'∧Go.Conc.Good Tryz.prog Post last o w' t':=by
 have hR:Res (gctx noT ws).Px (fun b x w=>b=false∧R x w) s0:=fun t d=>by
  obtain ⟨K,v,w',fr,h1,h2,_,h3⟩:=hR0 t d;exact ⟨K,false,v,w',fr,h1,⟨rfl,h2⟩,.inl ⟨rfl,h3⟩⟩
 intro s hacc;induction hacc with
 | intro s _ ih =>
  obtain ⟨f,L,w⟩:=s;intro n N r f' L' v gs sl t SB hp hf hl hw hc h0 hsb hnew hst;by_cases hend:f.mode = .returning∧L = [Xb]
  ·obtain ⟨hm,rfl⟩:=hend
   have hL':L' = []:=by
    generalize hX : [Xb]=X at hl;cases hl with
    | nil=>rfl
    | cons a b=>simp only [List.cons.injEq] at hX; obtain ⟨_,rfl⟩:=hX; cases b
   subst hL';obtain ⟨q,hq⟩:=hc.fuel;refine beside_last (a:=G f' []) (sl:=sl) _ (Nat.le_refl _) hc hq h0 rfl fun d => ?_
   obtain ⟨u,e,hT,⟨_,b,x,⟨rfl,hRx⟩,hends⟩ | ⟨f1,L1,w1,m,hnf,_⟩ | ⟨_,_,_,_,_,_,_,_,_,_,hnf,_⟩⟩:=stepOn (main:=true) gok hR hp hf hl (hw.atR d);rotate_left
   ·exact absurd ⟨hm,rfl⟩ hnf
   ·exact absurd ⟨hm,rfl⟩ hnf
   have hlv:f.leaving Tryzx.prog (w.tp u e) (.returned x):=by
    rcases hends with ⟨_,h⟩ | ⟨h,_⟩
    ·exact h
    ·cases h
   have hfn:=end_fn hR0 hp hlv;obtain ⟨y,v1,es,r1,hs,hext,hw1,hev,hvr⟩:=end_step gok hf ((hw.atR d).tp u e) hT hlv (by rw [hfn]; exact hi0);have hsz:v.heap.size≤v1.heap.size:=by
    have:=hext.size;have:=hext.sizeL;show (v.at d).heap.size≤_
    omega
   refine ⟨y,v1,es,hs,hpost r1 _ x v1 y hvr hRx ?_,fun ev hev1=>evOk_evC (hev ev hev1) fun a b ab=>⟨(hw1.lt a b ab).2,fun hx => ?_⟩⟩
   ·refine ⟨hext.tape.trans hst.tape,hext.os.trans hst.os,hext.output.trans hst.output,Nat.le_trans hst.size hsz,fun b hb _ => ?_⟩
    rw [← hst.block b hb hb];show v1.heap[b]?=(v.at d).heap[b]?
    by_cases hx:∃ a,r a b
    ·obtain ⟨a,ab⟩:=hx
     by_cases hr:(gctx noT ws).RO a
     ·exact hext.keepRO a b ab hr
     ·exact absurd (hnew a b ab hr) (by omega)
    ·exact hext.keep b (Nat.lt_of_lt_of_le hb hst.size) fun a ab=>hx ⟨a,ab⟩
   ·rcases hext.new a b ab with h1 | ⟨i,_,rfl⟩
    ·exact hsb a b h1 hx
    ·have:=hc.sb _ hx
     have h2:(v.at d).heap.size=v.heap.size:=rfl;omega
  ·have hall:∀ d,∃ u e,TE (w.tp u e) (v.at d)∧((∃ f1 L1 w1 m,Path Tryzx.prog s0 (n+m) (N+1) ⟨f1,L1,w1⟩∧Rel Tryzx.prog ⟨f1,L1,w1⟩ ⟨f,L,w⟩∧Answers (gctx noT ws) r [Xb] [] true f' L' (w.tp u e) (v.at d) (G f1 L1) w1) ∨
     (∃ x x' m w2 v1 v2 r1 c' sh es',Path Tryzx.prog s0 (n+m) (N+1) ⟨f.finish x,L,w2⟩∧Rel Tryzx.prog ⟨f.finish x,L,w2⟩ ⟨f,L,w⟩∧CommOn (gctx noT ws) r f f' (w.tp u e) (v.at d) x x' m w2 v1 v2 r1 c' sh es')):=fun d=>by
    obtain ⟨u,e,hT,⟨hL,b,x,⟨rfl,hRx⟩,hends⟩ | ⟨f1,L1,w1,m,hnf,_,hp1,hrel,hans⟩ | ⟨x,x',m,w2,v1,v2,r1,c',sh,es',hnf,_,hp1,hrel,hcm⟩⟩:=stepOn (main:=true) gok hR hp hf hl (hw.atR d)
    ·exfalso
     rcases hends with ⟨_,h⟩ | ⟨h,_⟩
     ·exact hend ⟨h.1,hL⟩
     ·cases h
    ·exact ⟨u,e,hT,.inl ⟨f1,L1,w1,m,hp1,hrel,hans⟩⟩
    ·exact ⟨u,e,hT,.inr ⟨x,x',m,w2,v1,v2,r1,c',sh,es',hp1,hrel,hcm⟩⟩
   have hfacts:∀ (d:Nat) (r1:Ren) (w1 v1:World) (u:Tp) (e:Nat),Ext (gctx noT ws) r (w.tp u e) (v.at d) r1 w1 v1→WR (gctx noT ws) r1 w1 v1→v.heap.size≤v1.heap.size∧(∀ a b,r1 a b→¬ SB b)∧(∀ a b,r1 a b→¬ (gctx noT ws).RO a→v0.heap.size≤b)∧Stays (fun b=>b<v0.heap.size) v0 v1:=by
    intro d r1 w1 v1 u e hext hw1;have h2:(v.at d).heap.size=v.heap.size:=rfl;have hsz:v.heap.size≤v1.heap.size:=by
     have:=hext.size;have:=hext.sizeL;omega
    refine ⟨hsz,fun a b ab hx => ?_,fun a b ab hr => ?_,hext.tape.trans hst.tape,hext.os.trans hst.os,hext.output.trans hst.output,Nat.le_trans hst.size hsz,fun b hb _ => ?_⟩
    ·rcases hext.new a b ab with h1 | ⟨i,_,rfl⟩
     ·exact hsb a b h1 hx
     ·have:=hc.sb _ hx
      omega
    ·rcases hext.new a b ab with h1 | ⟨i,_,rfl⟩
     ·exact hnew a b h1 hr
     ·have:=hst.size
      omega
    ·rw [← hst.block b hb hb]
     show v1.heap[b]?=(v.at d).heap[b]?
     by_cases hx:∃ a,r a b
     ·obtain ⟨a,ab⟩:=hx
      by_cases hr:(gctx noT ws).RO a
      ·exact hext.keepRO a b ab hr
      ·exact absurd (hnew a b ab hr) (by omega)
     ·exact hext.keep b (Nat.lt_of_lt_of_le hb hst.size) fun a ab=>hx ⟨a,ab⟩
   obtain ⟨q,hq⟩:=hc.fuel;obtain ⟨N1,gs1,sl1,t1,d,a1,v',e1,e2,⟨u,e,f1,L1,w1,m,r1,hp1,hrel,hext,hw1,hout⟩,c1,g1,s1⟩:=beside_both (sl:=sl) (K:=fun d a' v'=>∃ u e f1 L1 w1 m r1,Path Tryzx.prog s0 (n+m) (N+1) ⟨f1,L1,w1⟩∧Rel Tryzx.prog ⟨f1,L1,w1⟩ ⟨f,L,w⟩∧Ext (gctx noT ws) r (w.tp u e) (v.at d) r1 w1 v'∧WR (gctx noT ws) r1 w1 v'∧Out (gctx noT ws) r1 [Xb] [] (G f1 L1) a') _ (Nat.le_refl _) hc hq h0 fun d=>by
    obtain ⟨u,e,hT,⟨f1,L1,w1,m,hp1,hrel,h',v',es,r',hstep,hext,hw',hT',hev,hout⟩ | ⟨x,x',m,w2,v1,v2,r1,c',sh,es',hp1,hrel,hcm⟩⟩:=hall d
    ·obtain ⟨k1,k2,_,_⟩:=hfacts d r' w1 v' u e hext hw'
     exact .inl ⟨h',v',es,hstep,k1,fun ev hev1=>evOk_evC (hev ev hev1) fun a b ab=>⟨(hw'.lt a b ab).2,k2 a b ab⟩,u,e,f1,L1,w1,m,r',hp1,hrel,hext,hw',hout⟩
    ·obtain ⟨k1,k2,_,_⟩:=hfacts d r1 w2 v2 u e hcm.ext hcm.wr
     exact .inr ⟨c',sh,x',v1,v2,es',hcm.real true L',hcm.rdy,k1,fun ev hev1=>evOk_evC (hcm.ev ev hev1) fun a b ab=>⟨(hcm.wr.lt a b ab).2,k2 a b ab⟩,u,e,f.finish x,L,w2,m,r1,hp1,hrel,hcm.ext,hcm.wr,.go ((hf.mono hcm.ext.le).finish hcm.val) (hl.mono hcm.ext.le)⟩
   obtain ⟨k1,k2,k3,k4⟩:=hfacts d r1 w1 v' u e hext hw1;suffices hs:∃ M last o w' t',runNT Tryz.prog (M+1) (crowd gs1 v' sl1) t1=(.ended o w',t')∧runN Tryz.prog M (crowd gs1 v' sl1) = .next last∧step Tryz.prog last = .ended o w'∧Go.Conc.Good Tryz.prog Post last o w' t' by
    obtain ⟨M,last,o,w',t',q1,q2,q3,q4⟩:=hs;exact ⟨N1+M,last,o,w',t',by rw [Nat.add_assoc,runNT_add,e1]; exact q1,by rw [runN_add,e2]; exact q2,q3,q4⟩
   generalize hgl:G f1 L1=gl at hout;cases hout with
   | @go f2 f2' L2 L2' a b =>
    unfold G at hgl;simp at hgl;obtain ⟨rfl,rfl⟩:=hgl;exact ih ⟨f1,L1,w1⟩ hrel sl1 hp1 a b hw1 c1 g1 k2 k3 k4
   | @call fn args args' f2 f2' L2 L2' hent hnf hargs hf2 hl2 =>
    unfold G at hgl;simp at hgl;obtain ⟨rfl,rfl⟩:=hgl;have hfn:fn=87∧args.size=1:=by
     rcases hent with h | ⟨⟨k,h⟩,h1⟩
     ·exact absurd (gfine h) hnf
     ·exact ⟨lawD_spec h,h1⟩
    obtain ⟨rfl,hsz⟩:=hfn;obtain ⟨x,rfl⟩:∃ x,args = #[x]:=Array.size_eq_one_iff.1 hsz;have hsz':args'.size=1:=by rw [← hargs.size]; rfl
    obtain ⟨x',rfl⟩:∃ x,args' = #[x]:=Array.size_eq_one_iff.1 hsz';have hx:VR (gctx noT ws) r1 x x':=hargs.get 0 _ _ rfl rfl;obtain ⟨cs2,rfl,hpl⟩:=hl2.plain;have hplf:PlainF Tryzx.prog f2:=by
     cases hf2 with
     | mk m hF _ _ =>
      obtain ⟨fn,c,h1,_⟩:=hF.body;exact ⟨rfl,⟨fn,h1⟩,by cases m <;> first | exact .inl rfl | exact .inr rfl⟩
    obtain ⟨t',_,K,b,xx,w',fr,hK,hRx,hE⟩:=hR.ahead hp1 (by simp) (fun _ _=>0) 0;have hah:Ahead Tryzx.prog (Frame.enter Tryzx.prog 87 #[x] .normal) ((f2 :: cs2) ++ [Xb]) (w1.tp t' (n+m)):=⟨K,b,fr,w',xx,hK,hE⟩;obtain ⟨A,nn,c,xs,rfl,hin⟩:=inv_rows (by simp) (fun q hq=>by
     rcases List.mem_cons.1 hq with rfl | hq
     ·exact hplf
     ·exact hpl q hq) hah (vr_self hx) (((wr_self hw1).tp t' _).tpR t' _)
    have hin1:RowsIn A nn xs w1:=hin;obtain ⟨A',rfl,hin',hA'⟩:=rows_real hw1 hx hin1;obtain ⟨N2,gs2,sl2,t2,v2,SB2,y',own,e4,c2,hSB,g2,hst2,hown,hval⟩:=cornersWhole hno sl1 c1 g1 hin' (fun a ha=>by
     obtain ⟨b,hb⟩:=hA' a ha;exact ⟨(hw1.lt _ _ hb).2,k2 _ _ hb⟩) hw1.big.2
    have e5:runN Tryz.prog N2 (crowd gs1 v' sl1) = .next (crowd gs2 v2 sl2):=by rw [← runNT_fst _ _ _ t1,e4]
    have hlen:=(corn_acc xs nn).len;have hfew:=(corn_acc xs nn).few;obtain ⟨cc,hc1,hc2,hcc⟩:∃ cc,cornN xs nn≤cc∧cc≤maxLen∧∀ g q cap,y' = .slice (some ⟨g,0,none⟩) q cap→cap=cc∧q=cornN xs nn:=by
     rcases hval with ⟨rfl,hnil⟩ | ⟨g,q,cap,cur,rfl,_,hq,_,hqc,hcm,_⟩
     ·exact ⟨cornN xs nn,Nat.le_refl _,by unfold maxLen; omega,fun g q cap e=>by cases e⟩
     ·exact ⟨cap,by omega,hcm,fun g' q' cap' e=>by cases e; exact ⟨rfl,by omega⟩⟩
    obtain ⟨m2,N3,w2,y,hN3,hp2,hlv,hsz2,hold⟩:=lone_call hw1 hx hin1 hc1 hc2 f2 (cs2 ++ [Xb]);have hp3:=hp1.trans hp2;have hrel3:=hrel.comp hp2;have hwg:=hw1.grow hsz2 hst2.size hold (fun b hb=>hst2.block b hb hb);have hSB2:∀ a b,r1 a b→¬ SB2 b:=fun a b ab hx=>by
     rcases hSB b hx with h | h
     ·exact k2 a b ab h
     ·have:=(hw1.lt a b ab).2; omega
    have hst3:Stays (fun b=>b<v0.heap.size) v0 v2:=⟨hst2.tape.trans k4.tape,hst2.os.trans k4.os,hst2.output.trans k4.output,Nat.le_trans k4.size hst2.size,fun b hb _=>(hst2.block b (Nat.lt_of_lt_of_le hb k4.size) (Nat.lt_of_lt_of_le hb k4.size)).trans (k4.block b hb hb)⟩;suffices hs:∃ M last o w' t',runNT Tryz.prog (M+1) (crowd gs2 v2 sl2) t2=(.ended o w',t')∧runN Tryz.prog M (crowd gs2 v2 sl2) = .next last∧step Tryz.prog last = .ended o w'∧Go.Conc.Good Tryz.prog Post last o w' t' by
     obtain ⟨M,last,o,w',t',q1,q2,q3,q4⟩:=hs;exact ⟨N2+M,last,o,w',t',by rw [Nat.add_assoc,runNT_add,e4]; exact q1,by rw [runN_add,e5]; exact q2,q3,q4⟩
    rcases hlv with ⟨rfl,hnil⟩ | ⟨g,hg,hglt,hq,rfl,hh⟩
    ·have hy:y' = .slice none 0 0:=by
      rcases hval with ⟨rfl,_⟩ | ⟨g,q,cap,cur,rfl,_,hq,hq1,_⟩
      ·rfl
      ·rw [hnil] at hq; simp at hq; omega
     subst hy;exact ih ⟨f2.finish (.slice none 0 0),cs2 ++ [Xb],w2⟩ hrel3 sl2 hp3 (hf2.finish (.sl0 0 0)) hl2 hwg c2 g2 hSB2 k3 hst3
    ·rcases hval with ⟨rfl,hnil⟩ | ⟨g',q,cap,cur,rfl,hog,hq4,hq1,hqc,hcm,hh',hcs,hcx,hcz⟩
     ·exfalso
      rw [cornN,hnil] at hq;simp at hq
     obtain ⟨rfl,rfl⟩:=hcc _ _ _ rfl;obtain ⟨hg1,hg2,hg3⟩:=hown _ hog;have hx1:∀ b,¬ r1 g b:=fun b hb=>by have:=(hw1.lt _ _ hb).1; omega
     have hx2:∀ a,¬ r1 a g':=fun a ha=>by have:=(hw1.lt _ _ ha).2; omega
     have hro:¬ (gctx noT ws).RO g:=fun h=>by have:=hw1.roLt _ h; omega
     have hva:VAll (gctx noT ws) (r1.ext g g') (((cornL xs nn).map (Value.int .i64)).toArray ++ Builtin.zeroCells #[.int .i64 0,.int .i64 0,.int .i64 0,.int .i64 0] (cap - cornN xs nn)) cur:=by
      refine ⟨?_,fun i x y hxi hyi => ?_⟩
      ·rw [Array.size_append,size_zeroCells,hcs]
       simp only [List.size_toArray,List.length_map,hlen,List.length_cons,List.length_nil,Nat.reduceAdd];omega
      ·have hilt:=(Array.getElem?_eq_some_iff.1 hyi).1
       rw [hcs] at hilt;rw [Array.getElem?_append] at hxi;by_cases hi:i<cornN xs nn*4
       ·rw [hcx i hi] at hyi
        cases hyi;rw [if_pos (by simpa [hlen] using hi)] at hxi;have hil:i<(cornL xs nn).length:=by omega
        simp only [List.getElem?_toArray,List.getElem?_map,List.getElem?_eq_getElem hil,Option.map_some,Option.some.injEq] at hxi;subst hxi;rw [nth_get _ i hil];exact .int _ _
       ·rw [hcz i (by omega) hilt] at hyi
        cases hyi;rw [if_neg (by simpa [hlen] using hi)] at hxi;rw [zeroCells_at zz4 (Array.getElem?_eq_some_iff.1 hxi).1] at hxi;cases hxi;exact .int _ _
     have hw3:=hwg.pair hglt hg2 hx1 hx2 hro ⟨Nat.le_trans hw1.big.1 hg,Nat.le_trans hw1.big.2 hg1⟩ (by rw [hh,hh']; exact .cells hva);have hvr:VR (gctx noT ws) (r1.ext g g') (.slice (some ⟨g,0,none⟩) (cornN xs nn) cap) (.slice (some ⟨g',0,none⟩) (cornN xs nn) cap) := .sl _ _ ⟨.inr ⟨rfl,rfl⟩,by show 0=0+(gctx noT ws).sh g; rw [hw3.shz _ hro],rfl⟩;have hsub:=Ren.sub_ext r1 g g';refine ih ⟨f2.finish (.slice (some ⟨g,0,none⟩) (cornN xs nn) cap),cs2 ++ [Xb],w2⟩ hrel3 sl2 hp3 ((hf2.mono hsub).finish hvr) (hl2.mono hsub) hw3 c2 g2 (fun a b ab => ?_) (fun a b ab hr => ?_) hst3
     ·rcases ab with ab | ⟨rfl,rfl⟩
      ·exact hSB2 a b ab
      ·exact hg3
     ·rcases ab with ab | ⟨rfl,rfl⟩
      ·exact k3 a b ab hr
      ·have:=k4.size; omega
end
end Rn
namespace Rn
open Go.Conc
noncomputable def lworld (noT:TypeId) (ws:List Win) (v:World):World := { v with heap:=(Array.replicate Tryz.prog.globals.size (Obj.map #[] 0)) ++ (ws.map fun x=>Obj.cells x.cells noT (0,x.cells.size)).toArray }
def lR (ws:List Win):Ren:=fun a b=>∃ (i:Nat) (x:Win),ws[i]?=some x∧x.live=true∧a=Tryz.prog.globals.size+i∧b=x.blk
section
variable {noT : TypeId} {ws : List Win} {v : World}
theorem l_size:(lworld noT ws v).heap.size=Tryz.prog.globals.size+ws.length:=by
 show ((Array.replicate Tryz.prog.globals.size (Obj.map #[] 0)) ++ (ws.map fun x=>Obj.cells x.cells noT (0,x.cells.size)).toArray).size=_
 simp
theorem l_at {i:Nat} {x:Win} (h:ws[i]?=some x):(lworld noT ws v).heap[Tryz.prog.globals.size+i]?=some (.cells x.cells noT (0,x.cells.size)):=by
 show ((Array.replicate Tryz.prog.globals.size (Obj.map #[] 0)) ++ (ws.map fun x=>Obj.cells x.cells noT (0,x.cells.size)).toArray)[Tryz.prog.globals.size+i]?=_
 rw [Array.getElem?_append,if_neg (by simp)];simp [h]
def WinsOk (noT:TypeId) (ws:List Win) (v:World):Prop:=∀ (i:Nat) (x:Win),ws[i]?=some x→x.live=true→∃ c' t' z',v.heap[x.blk]?=some (.cells c' t' z')∧∀ (k:Nat) u,x.cells[k]?=some u→∃ u',c'[k+x.off]?=some u'∧VR (gctx noT ws) (lR ws) u u'
theorem l_wr (hno:Tryz.prog.toTables.info? noT=none) (hG:Tryz.prog.globals.size≤v.heap.size) (h:WinsOk noT ws v):WR (gctx noT ws) (lR ws) (lworld noT ws v) v where
 lt:=by
  rintro a b ⟨i,x,hi,hl,rfl,rfl⟩;obtain ⟨c',t',z',k,_⟩:=h i x hi hl;exact ⟨by rw [l_size]; have:=(List.getElem?_eq_some_iff.1 hi).1; omega,(Array.getElem?_eq_some_iff.1 k).1⟩
 fn:=by
  rintro a b b' ⟨i,x,hi,_,rfl,rfl⟩ ⟨i',x',hi',_,e,rfl⟩;obtain rfl:i=i':=by omega
  rw [hi] at hi'; cases hi'; rfl
 inj:=by
  rintro a a' b ⟨i,x,hi,_,rfl,_⟩ ⟨i',x',hi',_,rfl,_⟩;have:=(List.getElem?_eq_some_iff.1 hi).1;have:=(List.getElem?_eq_some_iff.1 hi').1;exact .inr ⟨⟨by omega,by omega⟩,⟨by omega,by omega⟩⟩
 obj:=by
  rintro a b ⟨i,x,hi,_,rfl,_⟩ hr;have:=(List.getElem?_eq_some_iff.1 hi).1;exact absurd (show (gctx noT ws).RO _ from ⟨by omega,by omega⟩) hr
 win:=by
  rintro a b ⟨i,x,hi,hl,rfl,rfl⟩ hr;obtain ⟨c',t',z',k,hk⟩:=h i x hi hl;have hlt:=(List.getElem?_eq_some_iff.1 hi).1;refine ⟨x.cells,x.cells.size,c',t',z',l_at hi,Nat.le_refl _,k,fun j u hu => ?_⟩;have e:(gctx noT ws).sh (Tryz.prog.globals.size+i)=x.off:=by
   show (if Tryz.prog.globals.size≤Tryz.prog.globals.size+i∧Tryz.prog.globals.size+i<Tryz.prog.globals.size+ws.length then ((ws[Tryz.prog.globals.size+i - Tryz.prog.globals.size]?).map (·.off)).getD 0 else 0)=_
   rw [if_pos ⟨by omega,by omega⟩,Nat.add_sub_cancel_left,hi];rfl
  rw [e];exact hk j u hu
 winG:=by rintro a b ⟨i,x,hi,_,rfl,_⟩ _; exact Nat.le_add_right _ _
 glob:=by
  rintro a b ⟨i,x,hi,_,rfl,_⟩ hr;have:=(List.getElem?_eq_some_iff.1 hi).1;exact absurd (show (gctx noT ws).RO _ from ⟨by omega,by omega⟩) hr
 big:=⟨by rw [l_size]; exact Nat.le_add_right _ _,hG⟩;shz:=by
  intro a hr;show (if Tryz.prog.globals.size≤a∧a<Tryz.prog.globals.size+ws.length then _ else 0)=0
  rw [if_neg (show ¬ (Tryz.prog.globals.size≤a∧a<Tryz.prog.globals.size+ws.length) from hr)]
 roLt:=by rintro a ⟨_,h2⟩; rw [l_size]; exact h2
 noInfo:=hno
theorem calm0 (g:Goroutine) (w:World):Calm Tryz.prog (fun _=>False) #[g] w #[] where
 old:=fun i x hi hx=>by
  have:=(Array.getElem?_eq_some_iff.1 hx).1;simp at this;omega
 above:=fun k _=>rfl
 past:=⟨fun said ⟨i,j,h⟩=>by
  obtain ⟨_,⟨a,b,ha,_⟩,_⟩:=h;simp [Trace.act?] at ha,fun i a ha=>by simp [touchAt,Trace.act?] at ha,fun i g hg=>by simp [Trace.g?] at hg,rfl⟩
 seen:=fun op hop=>by simp at hop
 norel:=fun op hop=>by simp at hop
 sb:=fun b h=>h.elim
theorem engine (hno:Tryz.prog.toTables.info? noT=none) {f0:Nat} (hf0:lawF f0=true) (hi0:Tryz.prog.inits.idxOf? f0=none) {largs args:Array Value} (hG:Tryz.prog.globals.size≤v.heap.size) (hws:WinsOk noT ws v) (hargs:VAll (gctx noT ws) (lR ws) largs args)
  (hcalls:∀ t d,Calls Tryzx.prog f0 largs ((lworld noT ws v).tp t d) fun e _=>e = .returned (.bool true)) :
  ∃ M last o w' t',runNT Tryz.prog (M+1) (solo (G (Frame.enter Tryz.prog f0 args .normal) []) v) #[]=(.ended o w',t')∧runN Tryz.prog M (solo (G (Frame.enter Tryz.prog f0 args .normal) []) v) = .next last∧step Tryz.prog last = .ended o w' ∧
   Go.Conc.Good Tryz.prog (fun y w'=>y = .bool true∧Stays (fun b=>b<v.heap.size) v w') last o w' t':=by
 have hR0:∀ t d,∃ K x w' fr,runN Tryzx.prog K (St.at ⟨Frame.enter Tryzx.prog f0 largs .normal,[Xb],lworld noT ws v⟩ t d) = .next (lone fr [Xb] w')∧x = .bool true∧fr.fn=f0∧fr.leaving Tryzx.prog w' (.returned x):=fun t d=>by
  obtain ⟨e,w',fr,rfl,⟨K,hK⟩,h1,h2⟩:=hcalls t d [Xb];exact ⟨K,_,w',fr,hK,rfl,h1,h2⟩
 have hres:Res Tryzx.prog (fun b x w=>b=false∧x = .bool true) ⟨Frame.enter Tryzx.prog f0 largs .normal,[Xb],lworld noT ws v⟩:=fun t d=>by
  obtain ⟨K,x,w',fr,h1,h2,_,h3⟩:=hR0 t d;exact ⟨K,false,x,w',fr,h1,⟨rfl,h2⟩,.inl ⟨rfl,h3⟩⟩
 have hwr:=l_wr hno hG hws;have hfr:=enter_FrR (C:=gctx noT ws) (gfine hf0) hargs;rw [solo_eq_crowd];have hpost:∀ (r:Ren) (w:World) (x:Value) (u:World) (y:Value),VR (gctx noT ws) r x y→x = .bool true→Stays (fun b=>b<v.heap.size) v u→y = .bool true∧Stays (fun b=>b<v.heap.size) v u:=fun r w x u y hv hx hst=>by
  subst hx;cases hv;exact ⟨rfl,hst⟩
 have hnew:∀ a b,lR ws a b→¬ (gctx noT ws).RO a→v.heap.size≤b:=fun a b ab hr=>by
  obtain ⟨i,x,hi,_,rfl,_⟩:=ab;have:=(List.getElem?_eq_some_iff.1 hi).1;exact absurd (show (gctx noT ws).RO _ from ⟨by omega,by omega⟩) hr
 exact engine_loop (noT:=noT) (ws:=ws) hno (R:=fun x _=>x = .bool true) hR0 hi0 v hpost _ hres.acc none (Path.refl _ _) hfr (LR.nil) hwr (calm0 _ _) rfl (fun a b _ h=>h) hnew (.refl _ _)
end
end Rn
end Go.Proofs.YtjcgklifabcfkaaGreat
