/-
  Texts that the law stands on, part 28.
-/
import Derived.Test.YtjcgklifabcfkaaGreatV27
set_option maxRecDepth 100000
set_option linter.unusedVariables false
set_option linter.unusedSimpArgs false
set_option maxHeartbeats 12800000
namespace Go.Proofs.YtjcgklifabcfkaaGreat
section
open Go.RowKit
def AtOps (P:Program) (ops:Array Oper) (Q:Exit->Act->World->Prop) (l:List Nat) (a:Act) (w:World):Prop :=
 ∀ (b:Frame) (k:List Item) (cs:List Frame),∃ e a' w',Q e a' w'/\Arrives P (lone (b.at a (.inRegion ops l :: k)) cs w) b k cs e a' w'
section
variable {P : Program} {ops : Array Oper} {Q : Exit -> Act -> World -> Prop} {a : Act} {w w1 w2 : World} {i : Nat} {rest : List Nat} {o : Oper} {v : Value}
theorem wp_atOps {id:Nat} (h:AtOps P ops Q (List.range ops.size) a w):(Code.region id ops false).wp P Q a w :=
 fun b k cs=>let ⟨e,a',w',q,r⟩:=h b k cs; ⟨e,a',w',q,.of_steps (.one step_region) r⟩
theorem atOps_nil (h:Q .normal a w):AtOps P ops Q [] a w:=fun b k cs=>⟨.normal,a,w,h,.one step_region_end⟩
theorem atOps_val (ho:ops[i]?=some o) (hg:o.guard=none) (hr:(execOp a.eval o).run P w = .ok (.value v) w1) (h:AtOps P ops Q rest (a.put o.dst v) w1):AtOps P ops Q (i :: rest) a w:=by
 intro b k cs;obtain ⟨e,a',w',q,r⟩:=h b k cs;have hw:Region.wanted o (yielded ops a.tmps)=true:=by simp [Region.wanted,hg]
 have hs:=stepG_op (P:=P) (b:=b) (k:=k) (cs:=cs) (w:=w) (rest:=rest) ho hw;have hfin:(b.at a (.inRegion ops (i :: rest) :: k)).finish v=b.at (a.put o.dst v) (.inRegion ops rest :: k):=by rw [Frame.finish_at,ho]; rfl
 refine ⟨e,a',w',q,.of_steps (.one (step_lone_go ?_)) r⟩;rw [hs,<- hfin];simp [stepG.apply,hr]
theorem atOps_comm {c:CommCase} {sh:CommShape} (ho:ops[i]?=some o) (hg:o.guard=none) (hr:(execOp a.eval o).run P w = .ok (.comm #[c] true sh) w1) (hd:Rn.Rdy c sh w1 v w2) (h:AtOps P ops Q rest (a.put o.dst v) w2):AtOps P ops Q (i :: rest) a w:=by
 intro b k cs;obtain ⟨e,a',w',q,r⟩:=h b k cs;have hw:Region.wanted o (yielded ops a.tmps)=true:=by simp [Region.wanted,hg]
 have hs:=stepG_op (P:=P) (b:=b) (k:=k) (cs:=cs) (w:=w) (rest:=rest) ho hw;have hfin:(b.at a (.inRegion ops (i :: rest) :: k)).finish v=b.at (a.put o.dst v) (.inRegion ops rest :: k):=by rw [Frame.finish_at,ho]; rfl
 have hcm:∃ es,stepG P true (Go.Conc.G (b.at a (.inRegion ops (i :: rest) :: k)) cs) w = .comm (Go.Conc.G (b.at a (.inRegion ops (i :: rest) :: k)) cs) #[c] true sh w1 es:=by
  have hx:((execOp a.eval o).runT P w #[]).1 = .ok (.comm #[c] true sh) w1:=by rw [Sem.runT_fst]; exact hr
  generalize hy:(execOp a.eval o).runT P w #[]=y at hx;obtain ⟨y1,y2⟩:=y;simp only at hx;subst hx;have hap:∃ es,stepG.apply P true (b.at a (.inRegion ops (i :: rest) :: k)) cs none (execOp a.eval o) w = .comm (Go.Conc.G (b.at a (.inRegion ops (i :: rest) :: k)) cs) #[c] true sh w1 es:=by
   simp only [stepG.apply,hy,if_true,GStep.after];exact ⟨_,rfl⟩
  obtain ⟨es,hap⟩:=hap;exact ⟨es,hs.trans hap⟩
 obtain ⟨es,hcm⟩:=hcm;refine ⟨e,a',w',q,.of_steps (.one ?_) r⟩;rw [<- hfin];exact hd.lone hcm
end
def chB (k n:Nat):Array Value:=((List.range' k (n - k)).map fun (i:Nat)=>Value.int .i64 (i:Int)).toArray
theorem chB_size (k n:Nat):(chB k n).size=n - k:=by simp [chB]
theorem chB_nil (n:Nat):chB n n = #[]:=by simp [chB]
theorem chB_push (k:Nat):(chB 0 k).push (.int .i64 (k:Int))=chB 0 (k+1):=by
 simp only [chB,List.push_toArray,Nat.sub_zero];rw [List.range'_concat];simp
theorem chB_first {k n:Nat} (h:k<n):(chB k n).getD 0 undef = .int .i64 (k:Int):=by
 obtain ⟨m,hm⟩:∃ m,n - k=m+1:=⟨n - k - 1,by omega⟩;simp [chB,hm,List.range'_succ]
theorem chB_rest {k n:Nat} (h:k<n):(chB k n).extract 1 (chB k n).size=chB (k+1) n:=by
 obtain ⟨m,hm⟩:∃ m,n - k=m+1:=⟨n - k - 1,by omega⟩;rw [chB_size];simp [chB,hm,List.range'_succ,show n - (k+1)=m by omega];rw [List.take_of_length_le (by simp)]
def ChanAt (w:World) (g cap k m:Nat) (closed:Bool) (s q:Nat):Prop:=w.heap[g]?=some (.chan cap (chB k m) closed s q false)
theorem ChanAt.new (w:World) (cap:Nat):ChanAt (w.alloc (.chan cap #[] false 0 0 false)) w.heap.size cap 0 0 false 0 0:=by
 show (w.heap.push _)[w.heap.size]?=_
 simp [chB]
theorem ChanAt.keep {w w1:World} {g cap k m s q:Nat} {cl:Bool} (h:ChanAt w g cap k m cl s q) (hg:g<w.heap.size) (hb:Below w.heap.size w w1):ChanAt w1 g cap k m cl s q:=(hb.block g hg).trans h
theorem ChanAt.send {w:World} {g cap k s q:Nat} (h:ChanAt w g cap 0 k false s q) (hk:k<cap) (z:Value):Rn.Rdy (Go.Conc.scase g (.int .i64 (k:Int)) z) .send w undef (w.setChan g cap (chB 0 (k+1)) false (s+1) q false):=by
 have:=Rn.Rdy.send (v := .int .i64 (k:Int)) (z:=z) h (by rw [chB_size]; omega)
 rw [chB_push] at this;exact this
theorem ChanAt.recv {w:World} {g cap k m s q:Nat} {cl:Bool} (h:ChanAt w g cap k m cl s q) (hk:k<m) (z:Value):Rn.Rdy (Go.Conc.rcase g z) (.recv true) w (.tuple #[.int .i64 (k:Int),.bool true]) (w.setChan g cap (chB (k+1) m) cl s (q+1) false):=by
 have:=Rn.Rdy.recv (z:=z) true h (by rw [chB_size]; omega)
 rw [chB_first hk,chB_rest hk] at this;exact this
theorem ChanAt.shut {w:World} {g cap m s q:Nat} (h:ChanAt w g cap m m true s q) (z:Value):Rn.Rdy (Go.Conc.rcase g z) (.recv true) w (.tuple #[z,.bool false]) w:=by
 unfold ChanAt at h;rw [chB_nil] at h;exact Rn.Rdy.shut (z:=z) true h
theorem ChanAt.set {w:World} {g:Nat} (hg:g<w.heap.size) (cap k m:Nat) (cl:Bool) (s q:Nat):ChanAt (w.setChan g cap (chB k m) cl s q false) g cap k m cl s q:=Go.Conc.heap_setChan w g cap _ cl s q false hg
theorem run_makeChan {P:Program} {t elem:TypeId} {dir:ChanDir} {inf:TypeInfo} (ht:P.underlying t=some (.chan dir elem)) (hi:P.info? elem=some inf) (hb:inf.bytes=8) {n:Nat} (hn:n<=1000) (w:World) :
  (Instr.makeChan t (.int .i64 (n:Int))).run P w = .ok (.chan (some w.heap.size)) (w.alloc (.chan n #[] false 0 0 false)):=by
 have h1:¬ ((n:Int)<0):=by omega
 have h2:¬ ((n:Int) > IntKind.i64.max):=by
  have:IntKind.i64.max=9223372036854775807:=rfl;omega
 have h3:¬ ((inf.bytes:Int)*(n:Int) > 2 ^ 48 - 112):=by rw [hb]; omega
 have h4:¬ ((n:Int)<0 ∨ (n:Int) > IntKind.i64.max ∨ (inf.bytes:Int)*(n:Int) > 2 ^ 48 - 112):=by
  rintro (h | h | h)
  ·exact h1 h
  ·exact h2 h
  ·exact h3 h
 simp only [Instr.makeChan,asInt,asIntOf,Sem.run_bind,Sem.run_pure,Result.andThen_ok,underlying,typeInfo,program,Sem.run,ht,hi];rw [if_neg h4];rfl
theorem run_close {P:Program} {w:World} {g cap k m s q:Nat} (h:ChanAt w g cap k m false s q) (ats:Array TypeId) (t:TypeId) :
  (Builtin.close_ ats t #[.chan (some g)]).run P w = .ok (.tuple #[]) (w.setChan g cap (chB k m) true s q false):=by
 unfold ChanAt at h;obtain ⟨K,e1,e2⟩:∃ K,Builtin.close_ ats t #[.chan (some g)]=Sem.getObj g K/\K (.chan cap (chB k m) false s q false)=Sem.setObj g (.chan cap (chB k m) true s q false) (Sem.pure (.tuple #[])):=⟨_,rfl,rfl⟩;rw [e1];simp only [Sem.run,h];rw [e2];simp only [Sem.run,h];rfl
theorem run_recv {P:Program} {t elem:TypeId} {dir:ChanDir} {inf:TypeInfo} {z:Value} (ht:P.underlying t=some (.chan dir elem)) (hi:P.info? elem=some inf) (hz:inf.zero=some z) {o:Oper} {x:Operand} {ok:Bool} (ho:o.op = .recv t x ok) {e:Operand->Value} {g:Nat} (he:e x = .chan (some g)) (w:World) :
  (execOp e o).run P w = .ok (.comm #[Go.Conc.rcase g z] true (.recv ok)) w:=by
 unfold execOp;rw [ho];simp only [zeroValue,Sem.run_bind,underlying,typeInfo,program,Sem.run,ht,hi,hz,he,Sem.run_pure,Result.andThen_ok];rfl
theorem run_send {P:Program} {o:Oper} {x y:Operand} (ho:o.op = .send x y) {e:Operand->Value} {g:Nat} {v:Value} (he:e x = .chan (some g)) (hv:e y=v) (w:World) :
  (execOp e o).run P w = .ok (.comm #[Go.Conc.scase g v (.tuple #[])] true .send) w:=by
 unfold execOp;rw [ho];simp only [he,hv];rfl
theorem run_closeOp {P:Program} {w:World} {g cap k m s q:Nat} (h:ChanAt w g cap k m false s q) {o:Oper} {x:Operand} {ats:Array TypeId} (ho:o.op = .call { callee := .builtin .close,args := #[x],argTypes:=ats }) {e:Operand->Value} (he:e x = .chan (some g)) :
  (execOp e o).run P w = .ok (.value (.tuple #[])) (w.setChan g cap (chB k m) true s q false):=by
 unfold execOp;rw [ho];have:=run_close (P:=P) h ats o.type;rw [<- he] at this;show (Builtin.close_ ats o.type (#[x].map e) >>= fun v=>pure (Next.value v)).run P w=_
 rw [Sem.run_bind,show #[x].map e = #[e x] from by simp,this];rfl
theorem only_setChan (w:World) (g cap:Nat) (buf:Array Value) (cl:Bool) (s q:Nat) (tm:Bool):Only g w (w.setChan g cap buf cl s q tm) :=
 ⟨rfl,rfl,rfl,Go.Conc.size_setChan _ _ _ _ _ _ _ _,fun k hk=>by simp only [World.setChan]; rw [Array.getElem?_setIfInBounds_ne (fun e=>hk e.symm)]⟩
def chLeft (w:World) (g:Nat):Nat:=match w.heap[g]? with
 | some (.chan _ b _ _ _ _)=>b.size
 | _=>0
theorem ChanAt.left {w:World} {g cap k m s q:Nat} {cl:Bool} (h:ChanAt w g cap k m cl s q):chLeft w g=m - k:=by
 unfold ChanAt at h;simp only [chLeft,h,chB_size]
end
namespace X
open Go.RowKit
theorem chanInt:Tryzx.prog.underlying 64=some (.chan .both 3):=Tryzx.underlying64
section
variable (A : Option Addr) (n c : Nat) (L : List (Nat × List Int)) (B : Option Addr) (q d : Nat) (M : List (Nat × List Int)) (w : World) (h : NestAt w w.heap.size 4 A n L) (hn : n <= 1048576) (hr : ∀ i, i < n -> rowN L i <= 1048576) (hl : NestAt w w.heap.size 3 B q M) (hq : q <= 1048576) (hs : ∀ i, i < q -> rowN M i <= 1048576)
include h hn hr hl hq hs
theorem iFail_any:Calls Tryzx.prog 14 #[.agg #[.slice A n c,.slice B q d]] w fun e w'=>∃ v,e = .returned v/\OwnV w' w.heap.size 3 v (failZ L n M q)/\Below w.heap.size w w':=by
 have b0:Below w.heap.size w (w.alloc (.cells #[.slice A n c,.slice B q d] 31)):=bnw _ _;have bx0:Box2 (w.alloc (.cells #[.slice A n c,.slice B q d] 31)) w.heap.size (.slice A n c) (.slice B q d):=Box2.new _ _ _ _;have h1:=h.after b0;have l1:=hl.after b0;cases hB:vaultB L n M q
 ·have HF:=q_ (failZ_f hB)
  go_enter Tryzx.func14,Tryz.ntmps14;go_wp2_with fail
  refine (iVaultOk_any _ _ _ L _ _ _ M _ h1 hn hr l1 hq hs).mono ?_;rw [hB];rintro e w1 ⟨rfl,hb1⟩;have HB1:=q_ (below_then b0 hb1);clear hb1 b0 bx0 h1 l1 h hl hB;go_wp2;go_ret;exact ⟨_,rfl,by rw [HF.out]; exact OwnV.nil _ _ _,HB1.out⟩
 ·have HT:=q_ (failZ_t hB)
  obtain ⟨hn5,hqn,_⟩:=vaultB_out hB;subst hqn;have H:=q_ h;have HL:=q_ hl;have HR:=q_ hr;have HS:=q_ hs;obtain ⟨inf,hinf,hinz⟩:=Option.map_eq_some_iff.1 infoInt;simp only [Prod.mk.injEq] at hinz;have HMK:=q_ (fun w'=>run_makeChan (P:=Tryzx.prog) chanInt hinf hinz.2.2 (n:=q) (by omega) w');have HRC:=q_ (fun (o:Oper) (x:Operand) (ho:o.op = .recv 64 x true) (e:Operand->Value) (g:Nat) (he:e x = .chan (some g)) (w':World)=>run_recv (P:=Tryzx.prog) chanInt hinf hinz.1 ho he w');go_enter Tryzx.func14,Tryz.ntmps14;go_wp2_with fail
  refine (iVaultOk_any _ _ _ L _ _ _ M _ h1 hn hr l1 hq hs).mono ?_;rw [hB];rintro e W1 ⟨rfl,hb1⟩;have BX1:=bx0.after hb1;have B1:=q_ (below_then b0 hb1);have cx0:=BX1.1;have cx1:=BX1.2.1;have BX:=q_ BX1;clear hb1 b0 bx0 h1 l1 h hl hr hs hB BX1 hinf hinz;have hmk:∀ w',(Instr.makeChan 64 (.int .i64 (q:Int))).run Tryzx.prog w' = .ok (.chan (some w'.heap.size)) (w'.alloc (.chan q #[] false 0 0 false)):=HMK.out;go_upto_region 4 with fail
  have ba:=(Below.refl W1.heap.size W1).alloc (Nat.le_refl _) (.chan q #[] false 0 0 false);have HC0:=q_ (ChanAt.new W1 q);obtain ⟨W2,hW2⟩:∃ W2,W1.alloc (.chan q #[] false 0 0 false)=W2:=⟨_,rfl⟩;have hz1:=B1.out.size;have hz2:W1.heap.size<W2.heap.size:=by rw [<- hW2]; simp
  rw [hW2] at ba HC0;try rw [hW2]
  have BX2:=BX.out.after ba;have cy0:=BX2.1;have cy1:=BX2.2.1;have hbx:=BX.out.2.2;have B2:=q_ (B1.out.trans (ba.mono hz1));have BX:=q_ BX2;clear ba hW2 BX2 cx0 cx1 hmk B1 HMK;generalize W1.heap.size=g at *
  go_wp2;go_loopw [17] (fun i wr=>∃ k:Nat,k<=q/\i = .int .i64 k/\g<wr.heap.size/\Hid (ChanAt wr g q 0 k false k 0)/\Hid (Box2 wr w.heap.size (.slice A q c) (.slice B q d))/\Hid (Below w.heap.size w wr)) (fun i _=>q - (intOf i).toNat)
  case atStart=>exact ⟨0,Nat.zero_le _,rfl,hz2,HC0,BX,B2⟩
  case round =>
   clear BX B2 HC0 cy0 cy1 hz2;obtain ⟨k,hk,rfl,hgz,HC,HX,HB⟩:=hrel;by_cases hlt:k<q
   ·have ki:(k:Int)<(q:Int):=by omega
    have i1:IntKind.i64.wrap ((k:Int)+1)=(k:Int)+1:=iW (by omega);go_upto_region 7 with fail
    refine wp_atOps ?_;refine atOps_val rfl rfl rfl ?_;refine atOps_val rfl rfl rfl ?_;refine atOps_comm rfl rfl (run_send rfl rfl rfl _) (HC.out.send hlt _) ?_;refine atOps_nil ?_;have hbs:Below (w.heap.size+1) wr (wr.setChan g q (chB 0 (k+1)) false (k+1) 0 false):=Go.Conc.below_setChan (Below.refl _ _) (by omega) _ _ _ _ _ _;have HC7:=q_ (ChanAt.set hgz q 0 (k+1) false (k+1) 0);have hg7:g<(wr.setChan g q (chB 0 (k+1)) false (k+1) 0 false).heap.size:=by rw [Go.Conc.size_setChan]; exact hgz
    have HX7:Hid (Box2 (wr.setChan g q (chB 0 (k+1)) false (k+1) 0 false) w.heap.size (.slice A q c) (.slice B q d)):=q_ ⟨(hbs.cell (p:=⟨w.heap.size,0,none⟩) (Nat.lt_succ_self _)).trans HX.out.1,(hbs.cell (p:=⟨w.heap.size,1,none⟩) (Nat.lt_succ_self _)).trans HX.out.2.1,Nat.lt_of_lt_of_le HX.out.2.2 hbs.size⟩;have HB7:=q_ (HB.out.trans (hbs.mono (Nat.le_succ _)));clear hbs HC HX HB hgz;generalize wr.setChan g q (chB 0 (k+1)) false (k+1) 0 false=w7 at *
    try simp only [Act.put,ly3]
    try simp only [Exit.inBlock,Exit.then]
    go_wp2;go_roundw
    case rel=>exact ⟨k+1,by omega,by go_num,hg7,HC7,HX7,HB7⟩
    case measure=>simp [intOf]; omega
   ·obtain rfl:q=k:=by omega
    go_upto_region 9 with fail
    refine wp_atOps ?_;refine atOps_val rfl rfl rfl ?_;refine atOps_val rfl rfl (run_closeOp HC.out rfl rfl) ?_;refine atOps_nil ?_;have hbs:Below (w.heap.size+1) wr (wr.setChan g q (chB 0 q) true q 0 false):=Go.Conc.below_setChan (Below.refl _ _) (by omega) _ _ _ _ _ _;have HC7:=q_ (ChanAt.set hgz q 0 q true q 0);have hg7:g<(wr.setChan g q (chB 0 q) true q 0 false).heap.size:=by rw [Go.Conc.size_setChan]; exact hgz
    have HX7:Hid (Box2 (wr.setChan g q (chB 0 q) true q 0 false) w.heap.size (.slice A q c) (.slice B q d)):=q_ ⟨(hbs.cell (p:=⟨w.heap.size,0,none⟩) (Nat.lt_succ_self _)).trans HX.out.1,(hbs.cell (p:=⟨w.heap.size,1,none⟩) (Nat.lt_succ_self _)).trans HX.out.2.1,Nat.lt_of_lt_of_le HX.out.2.2 hbs.size⟩;have HB7:=q_ (HB.out.trans (hbs.mono (Nat.le_succ _)));clear hbs HC HX HB hgz;generalize wr.setChan g q (chB 0 q) true q 0 false=w7 at *
    try simp only [Act.put,ly3]
    try simp only [Exit.inBlock,Exit.then]
    have HO:=q_ (OwnV.nil w7 (g+1) 3);go_wp2;go_loopw [5] (fun v5 wr=>∃ k:Nat,k<=q/\g<wr.heap.size/\Hid (ChanAt wr g q k q true q k)/\Hid (OwnV wr (g+1) 3 v5 (failTo L M k))/\Hid (Box2 wr w.heap.size (.slice A q c) (.slice B q d))/\Hid (Below w.heap.size w wr)) (fun _ wr=>chLeft wr g)
    case atStart=>exact ⟨0,Nat.zero_le _,hg7,HC7,HO,HX7,HB7⟩
    case round =>
     clear HX7 HB7 HC7 HO hg7;obtain ⟨k,hk,hgz,HC,HO,HX,HB⟩:=hrel;by_cases hlt:k<q
     ·have ki:(k:Int)<(q:Int):=by omega
      have k0:(0:Int)<=(k:Int):=by omega
      have HLF:=q_ HC.out.left;go_upto_region 12 with fail
      refine wp_atOps ?_;refine atOps_comm rfl rfl (HRC.out _ _ rfl _ _ rfl _) (HC.out.recv hlt _) ?_;refine atOps_val rfl rfl rfl ?_;refine atOps_nil ?_;have ho9:=only_setChan wr g q (chB (k+1) q) true q (k+1) false;have hb9:Below (w.heap.size+1) wr (wr.setChan g q (chB (k+1) q) true q (k+1) false):=ho9.below (by omega);have HC9:=q_ (ChanAt.set hgz q (k+1) q true q (k+1));have hg9:g<(wr.setChan g q (chB (k+1) q) true q (k+1) false).heap.size:=by rw [Go.Conc.size_setChan]; exact hgz
      have HX9:Hid (Box2 (wr.setChan g q (chB (k+1) q) true q (k+1) false) w.heap.size (.slice A q c) (.slice B q d)):=q_ ⟨(hb9.cell (p:=⟨w.heap.size,0,none⟩) (Nat.lt_succ_self _)).trans HX.out.1,(hb9.cell (p:=⟨w.heap.size,1,none⟩) (Nat.lt_succ_self _)).trans HX.out.2.1,Nat.lt_of_lt_of_le HX.out.2.2 hb9.size⟩;have HB9:=q_ (HB.out.trans (hb9.mono (Nat.le_succ _)));have HO9:=q_ (ho9.own HO.out (fun e=>by have:=HO.out.ownLt g e; omega))
      clear hb9 ho9 HC HX HB HO hgz;generalize wr.setChan g q (chB (k+1) q) true q (k+1) false=W2 at *
      try simp only [Act.put,ly3]
      try simp only [Exit.inBlock,Exit.then]
      have hb:=HB9.out;obtain ⟨b,off,rfl,hbB,hc⟩:=H.out.2 (by omega);obtain ⟨b',off',rfl,hbB',hc'⟩:=HL.out.2 (by omega);obtain ⟨Ak,ck,hx,hrec,_,_⟩:=hc k hlt;obtain ⟨Bk,dk,hy,hrec',_,_⟩:=hc' k hlt;have x0:W2.cell? ⟨b,off+k,none⟩=some (.slice Ak (rowN L k) ck):=(hb.cell (by exact hbB)).trans hx;have y0:W2.cell? ⟨b',off'+k,none⟩=some (.slice Bk (rowN M k) dk):=(hb.cell (by exact hbB')).trans hy;have HR3:=q_ ((hrec.below hb).mono hb.size);have HR4:=q_ ((hrec'.below hb).mono hb.size);have hrk:=HR.out k hlt;have hsk:=HS.out k hlt;have hz:=hb.size;have v0:=HX9.out.1;have v1:=HX9.out.2.1;have vl:=HX9.out.2.2;have bl1:b<W2.heap.size:=by omega
      have bl2:b'<W2.heap.size:=by omega
      have HKEEP:=q_ (show ∀ w',Below W2.heap.size W2 w'->(w'.cell? ⟨w.heap.size,0,none⟩=some (.slice (some ⟨b,off,none⟩) q c)/\w'.cell? ⟨w.heap.size,1,none⟩=some (.slice (some ⟨b',off',none⟩) q d)/\w'.cell? ⟨b,off+k,none⟩=some (.slice Ak (rowN L k) ck)/\w'.cell? ⟨b',off'+k,none⟩=some (.slice Bk (rowN M k) dk)) from fun w' hw=>⟨(hw.cell (by exact vl)).trans v0,(hw.cell (by exact vl)).trans v1,(hw.cell (by exact bl1)).trans x0,(hw.cell (by exact bl2)).trans y0⟩);have HRS:Hid (decide (0<(thrN (rowZ L k) (rowN L k) (rowZ M k) (rowN M k):Int))=ribS L M k):=q_ rfl;clear hc hc' hx hy hrec hrec' hb;go_wp2;go_region_held3 (fun w'=>w'.cell? ⟨w.heap.size,0,none⟩=some (.slice (some ⟨b,off,none⟩) q c)/\w'.cell? ⟨w.heap.size,1,none⟩=some (.slice (some ⟨b',off',none⟩) q d)/\w'.cell? ⟨b,off+k,none⟩=some (.slice Ak (rowN L k) ck)/\w'.cell? ⟨b',off'+k,none⟩=some (.slice Bk (rowN M k) dk)) (first | exact ⟨v0,v1,x0,y0⟩ | exact hk1)
       ((go_at_call 37; refine (iStd_any _ _ _ (rowZ L k) _ _ _ (rowZ M k) _ (by exact HR3.out.drewN 1) hrk (by exact HR4.out.drewN 1) hsk).mono ?_; rw [HRS.out]; rintro e w1 ⟨rfl,hbx⟩; have hb1:=below_undrew hbx; have HB1:=q_ hb1; have hk1:=HKEEP.out w1 hb1))
      have HB3:=q_ (HB9.out.trans (HB1.out.mono hz));have HX3:=q_ (HX9.out.after HB1.out);have HO3:=q_ (HO9.out.below HB1.out);have HC3:=q_ (HC9.out.keep hg9 HB1.out);have hg3:=Nat.lt_of_lt_of_le hg9 HB1.out.size;clear hk1 hb1 hbx v0 v1 x0 y0 HKEEP HB1 HX9 HO9 HB9 HC9 hg9;cases hrs:ribS L M k
      ·have HE:=q_ (failTo_f hrs)
       have hlen:=failTo_len L M k;obtain ⟨A3,l3,c3,rfl⟩:=HO3.out.sliceN;have hl3:=HO3.out.len;have hz3:=HB3.out.size;have hx3:=HX3.out.2.2;go_wp2_with (at_builtin; refine wpList_append_int _ rfl (.tmp 40) (.tmp 42) 38 rfl (g+1) 3 Tryzx.underlying38 infoInt _ (failTo L M k) rfl (by exact HO3.out.alloc _) _ _ (k:Int) rfl (by exact cell_new1 _ _ _) (by omega) (by simp; omega) ?_; intro g' cap' w7 hown7 hgr7);have h7:=hown7.toV;rw [List.length_append,<- HE.out] at h7;have hb7:=ownB_below (Below.refl (g+1) _) (by first | omega | (simp; omega)) HO3.out (Nat.le_refl _) hgr7
       have HO7:Hid (OwnV w7 (g+1) 3 (.slice (some ⟨g',0,none⟩) ((failTo L M k).length+1) cap') (failTo L M (k+1))):=q_ h7;have HX7:Hid (Box2 w7 w.heap.size (.slice (some ⟨b,off,none⟩) q c) (.slice (some ⟨b',off',none⟩) q d)):=q_ ⟨(hb7.cell (p:=⟨w.heap.size,0,none⟩) (by show w.heap.size<g+1; omega)).trans HX3.out.1,(hb7.cell (p:=⟨w.heap.size,1,none⟩) (by show w.heap.size<g+1; omega)).trans HX3.out.2.1,Nat.lt_of_lt_of_le HX3.out.2.2 hb7.size⟩
       have HB7:=q_ (HB3.out.trans (hb7.mono (by omega)));have HC7:Hid (ChanAt w7 g q (k+1) q true q (k+1)):=q_ ((hb7.block g (Nat.lt_succ_self _)).trans HC3.out);have hg7:=Nat.lt_of_lt_of_le hg3 hb7.size;have HL7:=q_ HC7.out.left;clear hown7 hgr7 hb7 h7 hx3;go_wp2;go_roundw
       case rel=>exact ⟨k+1,by omega,hg7,HC7,HO7,HX7,HB7⟩
       case measure=>rw [HLF.out,HL7.out]; omega
      ·have HE:=q_ (failTo_t hrs)
       have HO7:=q_ (show OwnV _ _ _ _ (failTo L M (k+1)) by rw [HE.out]; exact HO3.out);have HL7:=q_ HC3.out.left;go_wp2;go_roundw
       case rel=>exact ⟨k+1,by omega,hg3,HC3,HO7,HX3,HB3⟩
       case measure=>rw [HLF.out,HL7.out]; omega
     ·obtain rfl:q=k:=by omega
      go_upto_region 12 with fail
      refine wp_atOps ?_;refine atOps_comm rfl rfl (HRC.out _ _ rfl _ _ rfl _) (HC.out.shut _) ?_;refine atOps_val rfl rfl rfl ?_;refine atOps_nil ?_;try simp only [Act.put,ly3]
      try simp only [Exit.inBlock,Exit.then]
      go_wp2;go_ret;exact ⟨_,rfl,by rw [HT.out]; exact HO.out.weakenN (by omega),HB.out⟩
theorem iVs_any:Calls Tryzx.prog 10 #[.agg #[.slice A n c,.slice B q d]] w fun e w'=>e = .returned (.bool (vsB L n M q))/\Below w.heap.size w w':=by
 have b0:Below w.heap.size w (w.alloc (.cells #[.slice A n c,.slice B q d] 31)):=bnw _ _;have bx0:Box2 (w.alloc (.cells #[.slice A n c,.slice B q d] 31)) w.heap.size (.slice A n c) (.slice B q d):=Box2.new _ _ _ _;have h1:=h.after b0;have l1:=hl.after b0;go_enter Tryzx.func10,Tryz.ntmps10;go_wp2_with fail
 refine (iVaultOk_any _ _ _ L _ _ _ M _ h1 hn hr l1 hq hs).mono ?_;obtain ⟨vb,hvb⟩:∃ vb,vaultB L n M q=vb:=⟨_,rfl⟩;rw [hvb];rintro e w1 ⟨rfl,hb1⟩;have HB1:=q_ (below_then b0 hb1);have HX1:=q_ (bx0.after hb1);have H1:=q_ (h1.after hb1);have L1:=q_ (l1.after hb1);clear hb1 b0 bx0 h1 l1 h hl;cases vb
 ·have HF:=q_ (vsB_f hvb)
  clear hvb;go_wp2;go_ret;exact ⟨by rw [HF.out]; rfl,HB1.out⟩
 ·have HT:=q_ (vsB_t hvb)
  have HZ:=q_ (failZ_t hvb);have cx0:=HX1.out.1;have cx1:=HX1.out.2.1;clear hvb;go_wp2_with fail
  refine (iFail_any _ _ _ L _ _ _ M _ H1.out hn hr L1.out hq hs).mono ?_;rintro e w2 ⟨v2,rfl,ho2,hb2⟩;obtain ⟨A2,l2,c2,rfl⟩:=ho2.sliceN;have hl2:=ho2.len;rw [HZ.out] at hl2;have HB2:=q_ (below_then HB1.out hb2);have HL2:=q_ hl2;clear ho2 hb2 hl2 cx0 cx1;by_cases h0:l2=0
  ·have e1:((l2:Int) == 0)=true:=by simp [h0]
   have HR2:Hid (decide ((failTo L M n).length=0)=true):=q_ (decide_eq_true (by rw [<- HL2.out]; exact h0));clear h0;go_wp2;go_ret;exact ⟨by rw [HT.out,HR2.out]; rfl,HB2.out⟩
  ·have e1:((l2:Int) == 0)=false:=by simp [h0]
   have HR2:Hid (decide ((failTo L M n).length=0)=false):=q_ (decide_eq_false (by rw [<- HL2.out]; exact h0));clear h0;go_wp2;go_ret;exact ⟨by rw [HT.out,HR2.out]; rfl,HB2.out⟩
end
end X
namespace X
open Go.RowKit
def cdv (a b:Int):Int:=(a+b - 1).tdiv b
theorem cdv_ok {a g:Int} (h0:0<=a) (h1:a<=2000000000000) (hg:1<=g):IntKind.i64.wrap (a.tdiv g)=a.tdiv g:=by
 have h2:(a.tdiv g).natAbs<=a.natAbs:=by rw [Int.natAbs_tdiv]; exact Nat.div_le_self _ _
 exact iW (by omega)
theorem ceilV_any (a b:Int) (w:World) (ha:0<=a/\a<=1000000000000) (hb:1<=b/\b<=1000000):Calls Tryzx.prog 39 #[.int .i64 a,.int .i64 b] w fun e w'=>e = .returned (.int .i64 (cdv a b))/\∃ n,w'=w.drewN n:=by
 have HS:Hid ((a+b - 1).tdiv b=cdv a b):=rfl;have i1:IntKind.i64.wrap (a+b)=a+b:=iW (by omega);have i2:IntKind.i64.wrap (a+b - 1)=a+b - 1:=iW (by omega);have i3:IntKind.i64.wrap ((a+b - 1).tdiv b)=(a+b - 1).tdiv b:=cdv_ok (by omega) (by omega) hb.1;have g0:¬ b=0:=by omega
 have g1:(b == -1)=false:=by simp; omega
 go_enter Tryzx.func39,Tryz.ntmps39;go_wp2;go_ret;exact ⟨by rw [<- HS.out]; rfl,0,rfl⟩
end X
namespace X
open Go.RowKit
def ThrAll (acc:List Int):Prop:=∃ q,acc.length=q*4/\∀ j,j<q->thrB (nth acc (j*4)) (nth acc (j*4+1)) (nth acc (j*4+2)) (nth acc (j*4+3))=true
theorem nth_left {xs ys:List Int} {j:Nat} (h:j<xs.length):nth (xs ++ ys) j=nth xs j:=by
 rw [nth_get _ _ (by rw [List.length_append]; omega),nth_get _ _ h,List.getElem_append_left h]
theorem nth_right {xs ys:List Int} {j:Nat} (h:j<ys.length):nth (xs ++ ys) (xs.length+j)=nth ys j:=by
 rw [nth_get _ _ (by rw [List.length_append]; omega),nth_get _ _ h,List.getElem_append_right (by omega)]
 congr 1
 omega
theorem crStep_thr {rs:List Int} {n i k m:Nat} {acc:List Int} (h:ThrAll acc):ThrAll (crStep rs n i k m acc):=by
 unfold crStep;split
 ·rename_i hc
  simp only [Bool.and_eq_true] at hc;have ht:=cr_thr rs hc.1;obtain ⟨q,hl,ha⟩:=h;refine ⟨q+1,by rw [List.length_append,hl]; simp; omega,fun j hj => ?_⟩
  by_cases e:j<q
  ·rw [nth_left (by omega),nth_left (by omega),nth_left (by omega),nth_left (by omega)]
   exact ha j e
  ·obtain rfl:j=q:=by omega
   have e0:j*4=acc.length+0:=by omega
   rw [e0,Nat.add_assoc,Nat.add_assoc,Nat.add_assoc,nth_right (by simp),nth_right (by simp),nth_right (by simp),nth_right (by simp)];exact ht
 ·exact h
theorem foldN_thr {f:Nat->List Int->List Int} (hf:∀ j a,ThrAll a->ThrAll (f j a)) {a:List Int} (h:ThrAll a):∀ t,ThrAll (foldN f t a)
 | 0=>h
 | t+1=>hf t _ (foldN_thr hf h t)
theorem cornL_thr (rs:List Int) (n:Nat):ThrAll (cornL rs n):=by
 have h0:ThrAll []:=⟨0,rfl,fun j hj=>absurd hj (by omega)⟩;cases e:cornB rs n
 ·rw [cornL_f e]; exact h0
 ·rw [cornL_t e]
  exact foldN_thr (fun i a ha=>foldN_thr (fun j a ha=>foldN_thr (fun j a ha=>crStep_thr ha) ha _) ha _) h0 _
theorem bstK_le (r:Int) (xs:List Int):∀ k,bstK r xs k<=k
 | 0=>Nat.le_refl _
 | k+1=>by
  have:=bstK_le r xs k;unfold bstK;split <;> omega
theorem bst_thr {rs:List Int} {n:Nat} (r:Int) (h:0<cornN rs n):thrB (bstV r (cornL rs n) (cornN rs n - 1) 0) (bstV r (cornL rs n) (cornN rs n - 1) 1) (bstV r (cornL rs n) (cornN rs n - 1) 2) (bstV r (cornL rs n) (cornN rs n - 1) 3)=true:=by
 obtain ⟨q,hl,ha⟩:=cornL_thr rs n;have hk:=bstK_le r (cornL rs n) (cornN rs n - 1);have hq:cornN rs n=q:=by unfold cornN; omega
 exact ha _ (by omega)
end X
namespace X
open Go.RowKit
theorem step_stRow {P:Program} {ops:Array Oper} {o:Oper} {a:Act} {w:World} {K:Act->World->Prop} {Q:Exit->Act->World->Prop} {F:Prop} (hgd:o.guard=none) (ty:TypeId) (x y:Operand) (ho:o.op = .store ty x y)
  (g:Nat) (cells:Array Value) (hx:a.eval x = .pointer (some ⟨g,0,none⟩)) (hy:a.eval y = .agg cells)
  (t:TypeId) (old:Array Value) (hg:w.heap[g]?=some (.cells old t (0,0))) (hi:(P.info? ty).map (·.size)=some cells.size)
  (hold:old.size=cells.size) (h1:cells.all (·.oneCell')=true)
  (h:∀ w',Only g w w'->w'.heap[g]?=some (.cells cells t (0,0))->K (a.put o.dst undef) w'):if Region.wanted o (yielded ops a.tmps)=true then o.wp P a w K Q else F:=by
 have hw:Region.wanted o (yielded ops a.tmps)=true:=by simp [Region.wanted,hgd]
 rw [if_pos hw];exact wp_store_row ty x y ho g cells hx hy t old hg hi hold h1 (h _ ⟨rfl,rfl,rfl,by simp,fun k hk=>setRow_other w g k cells hk⟩ (setRow_heap w g old cells t (0,0) hg))
theorem box4_of {w:World} {g:Nat} {T:TypeId} {a b c d:Int} (h:w.heap[g]?=some (.cells #[.int .i64 a,.int .i64 b,.int .i64 c,.int .i64 d] T (0,0))):Box4 w g a b c d:=by
 have hlt:g<w.heap.size:=by
  rcases Nat.lt_or_ge g w.heap.size with h' | h'
  ·exact h'
  ·rw [Array.getElem?_eq_none h'] at h; cases h
 exact ⟨⟨by simp [World.cell?,h],by simp [World.cell?,h],by simp [World.cell?,h],by simp [World.cell?,h]⟩,hlt⟩
theorem alloc_at (w:World) (o:Obj):(w.alloc o).heap[w.heap.size]?=some o:=heap_alloc_new w o
end X
namespace X
open Go.RowKit
noncomputable def pushAt (L M:List (Nat × List Int)) (k:Nat):Int:=cdv (bstV (-1) (thrL (rowZ L k) (rowN L k) (rowZ M k) (rowN M k)) (thrN (rowZ L k) (rowN L k) (rowZ M k) (rowN M k) - 1) 0) (bstV (-1) (thrL (rowZ L k) (rowN L k) (rowZ M k) (rowN M k)) (thrN (rowZ L k) (rowN L k) (rowZ M k) (rowN M k) - 1) 3)
noncomputable def pTo (L M:List (Nat × List Int)):Nat->Int
 | 0=>0
 | k+1=>pTo L M k+pushAt L M k
noncomputable def vpV (L:List (Nat × List Int)) (n:Nat) (M:List (Nat × List Int)) (q:Nat):Value:=if vsB L n M q=true then .tuple #[.int .i64 (pTo L M n),.bool true] else .tuple #[.int .i64 0,.bool false]
theorem vpV_t {L:List (Nat × List Int)} {n:Nat} {M:List (Nat × List Int)} {q:Nat} (h:vsB L n M q=true):vpV L n M q = .tuple #[.int .i64 (pTo L M n),.bool true]:=by simp [vpV,h]
theorem vpV_f {L:List (Nat × List Int)} {n:Nat} {M:List (Nat × List Int)} {q:Nat} (h:vsB L n M q=false):vpV L n M q = .tuple #[.int .i64 0,.bool false]:=by simp [vpV,h]
theorem vsB_k {L:List (Nat × List Int)} {n:Nat} {M:List (Nat × List Int)} {q k:Nat} (hk:k<n) (h:ribS L M k=false):vsB L n M q=false:=by
 cases e:vsB L n M q
 ·rfl
 ·simp only [vsB,Bool.and_eq_true,decide_eq_true_eq] at e
  have:=failTo_all (List.length_eq_zero_iff.1 e.2) k hk;rw [h] at this;cases this
theorem vsB_all {L:List (Nat × List Int)} {n:Nat} {M:List (Nat × List Int)} {q:Nat} (hv:vaultB L n M q=true) (h:∀ i,i<n->ribS L M i=true):vsB L n M q=true:=by
 simp [vsB,hv,failTo_none h]
theorem vsB_out {L:List (Nat × List Int)} {n:Nat} {M:List (Nat × List Int)} {q:Nat} (h:vsB L n M q=true):vaultB L n M q=true/\∀ i,i<n->ribS L M i=true:=by
 simp only [vsB,Bool.and_eq_true,decide_eq_true_eq] at h;exact ⟨h.1,failTo_all (List.length_eq_zero_iff.1 h.2)⟩
theorem tdiv_small {a g:Int} (h0:0<=a) (hg:1<=g):0<=a.tdiv g/\a.tdiv g<=a :=
 ⟨Int.tdiv_nonneg h0 (by omega),by rw [Int.tdiv_eq_ediv_of_nonneg h0]; exact Int.ediv_le_self _ h0⟩
structure PuF (L M:List (Nat × List Int)) (k:Nat) (H D:Int):Prop where
 h:0<=H/\H<=1000000000000
 d:1<=D/\D<=1000000
 p:pushAt L M k=cdv H D
theorem push_names {L M:List (Nat × List Int)} {k:Nat} (hs:ribS L M k=true):∃ H V U D,endV (lstB (rowZ L k) (rowN L k) (rowZ M k) (rowN M k)) (-1) (thrL (rowZ L k) (rowN L k) (rowZ M k) (rowN M k)) (thrN (rowZ L k) (rowN L k) (rowZ M k) (rowN M k)) = .tuple #[.agg #[.int .i64 H,.int .i64 V,.int .i64 U,.int .i64 D],.bool true]/\PuF L M k H D:=by
 have hT:0<thrN (rowZ L k) (rowN L k) (rowZ M k) (rowN M k):=by
  have:=of_decide_eq_true hs;omega
 have hl:lstB (rowZ L k) (rowN L k) (rowZ M k) (rowN M k)=true:=decide_eq_true hT;have ht:=thrB_out (bst_thr (rs:=rowsZ (rowZ L k) (rowN L k) (rowZ M k) (rowN M k)) (n:=rowsN (rowZ L k) (rowN L k) (rowZ M k) (rowN M k)) (-1) hT);exact ⟨_,_,_,_,endV_t hl _ _ _,⟨ht.2.1,ht.1,rfl⟩⟩
theorem push_none {L M:List (Nat × List Int)} {k:Nat} (hs:ribS L M k=false):endV (lstB (rowZ L k) (rowN L k) (rowZ M k) (rowN M k)) (-1) (thrL (rowZ L k) (rowN L k) (rowZ M k) (rowN M k)) (thrN (rowZ L k) (rowN L k) (rowZ M k) (rowN M k)) = .tuple #[.agg #[.int .i64 0,.int .i64 0,.int .i64 0,.int .i64 0],.bool false]:=by
 have hT:¬ 0<thrN (rowZ L k) (rowN L k) (rowZ M k) (rowN M k):=by
  have:=of_decide_eq_false hs;omega
 exact endV_f (show lstB (rowZ L k) (rowN L k) (rowZ M k) (rowN M k)=false from decide_eq_false hT) _ _ _
theorem PuF.bd {L M:List (Nat × List Int)} {k:Nat} {H D:Int} (h:PuF L M k H D):0<=pushAt L M k/\pushAt L M k<=2000000000000:=by
 rw [h.p];have:=tdiv_small (a:=H+D - 1) (g:=D) (by have:=h.h; have:=h.d; omega) h.d.1
 unfold cdv;have:=h.h;have:=h.d;omega
theorem pTo_bd {L M:List (Nat × List Int)}:∀ {k:Nat},(∀ i,i<k->ribS L M i=true)->0<=pTo L M k/\pTo L M k<=2000000000000*(k:Int)
 | 0,_=>by simp [pTo]
 | k+1,h=>by
  have ih:=pTo_bd (k:=k) fun i hi=>h i (by omega)
  obtain ⟨_,_,_,_,_,hF⟩:=push_names (h k (by omega));have:=hF.bd;simp only [pTo];omega
section
variable (A : Option Addr) (n c : Nat) (L : List (Nat × List Int)) (B : Option Addr) (q d : Nat) (M : List (Nat × List Int)) (w : World) (h : NestAt w w.heap.size 4 A n L) (hn : n <= 1048576) (hr : ∀ i, i < n -> rowN L i <= 1048576) (hl : NestAt w w.heap.size 3 B q M) (hq : q <= 1048576) (hs : ∀ i, i < q -> rowN M i <= 1048576)
include h hn hr hl hq hs
theorem iPush_any:Calls Tryzx.prog 15 #[.agg #[.slice A n c,.slice B q d]] w fun e w'=>e = .returned (vpV L n M q)/\Below w.heap.size w w':=by
 have b0:Below w.heap.size w (w.alloc (.cells #[.slice A n c,.slice B q d] 31)):=bnw _ _;have bx0:Box2 (w.alloc (.cells #[.slice A n c,.slice B q d] 31)) w.heap.size (.slice A n c) (.slice B q d):=Box2.new _ _ _ _;have h1:=h.after b0;have l1:=hl.after b0;cases hB:vaultB L n M q
 ·have HF:=q_ (vpV_f (vsB_f hB))
  go_enter Tryzx.func15,Tryz.ntmps15;go_wp2_with fail
  refine (iVaultOk_any _ _ _ L _ _ _ M _ h1 hn hr l1 hq hs).mono ?_;rw [hB];rintro e w1 ⟨rfl,hb1⟩;have HB1:=q_ (below_then b0 hb1);clear hb1 b0 bx0 h1 l1 h hl hB;go_wp2;go_ret2;exact ⟨by rw [HF.out]; rfl,HB1.out⟩
 ·have HVB:=q_ hB
  obtain ⟨hn5,hqn,_⟩:=vaultB_out hB;subst hqn;have H:=q_ h;have HL:=q_ hl;have HR:=q_ hr;have HS:=q_ hs;go_enter Tryzx.func15,Tryz.ntmps15;go_wp2_with fail
  refine (iVaultOk_any _ _ _ L _ _ _ M _ h1 hn hr l1 hq hs).mono ?_;rw [hB];rintro e W1 ⟨rfl,hb1⟩;have BX1:=bx0.after hb1;have B1:=q_ (below_then b0 hb1);have cx0:=BX1.1;have cx1:=BX1.2.1;have BX:=q_ BX1;clear hb1 b0 bx0 h1 l1 h hl hr hs hB BX1;go_wp2;go_loopw [4,15] (fun s i wr=>∃ k:Nat,k<=q/\i = .int .i64 k/\s = .int .i64 (pTo L M k)/\Hid (∀ j,j<k->ribS L M j=true)/\Hid (Box2 wr w.heap.size (.slice A q c) (.slice B q d))/\Hid (Below w.heap.size w wr)) (fun _ i _=>q - (intOf i).toNat)
  case atStart=>exact ⟨0,Nat.zero_le _,rfl,rfl,q_ (fun j hj=>absurd hj (by omega)),BX,B1⟩
  case round =>
   clear BX B1 cx0 cx1;obtain ⟨k,hk,rfl,rfl,HALL,HX,HB⟩:=hrel;by_cases hlt:k<q
   ·have hb:=HB.out
    obtain ⟨b,off,rfl,hbB,hc⟩:=H.out.2 (by omega);obtain ⟨b',off',rfl,hbB',hc'⟩:=HL.out.2 (by omega);obtain ⟨Ak,ck,hx,hrec,_,_⟩:=hc k hlt;obtain ⟨Bk,dk,hy,hrec',_,_⟩:=hc' k hlt;have x0:wr.cell? ⟨b,off+k,none⟩=some (.slice Ak (rowN L k) ck):=(hb.cell (by exact hbB)).trans hx;have y0:wr.cell? ⟨b',off'+k,none⟩=some (.slice Bk (rowN M k) dk):=(hb.cell (by exact hbB')).trans hy;have hba:Below wr.heap.size wr (wr.alloc (.cells #[.slice Ak (rowN L k) ck] 45)):=bnw _ _;have HR1:=q_ (((hrec.below hb).mono hb.size).after hba);have HR2:=q_ (((hrec'.below hb).mono hb.size).after hba);have hrk:=HR.out k hlt;have hsk:=HS.out k hlt;have hz:=hb.size;have ki:(k:Int)<(q:Int):=by omega
    have k0:(0:Int)<=(k:Int):=by omega
    have i1:IntKind.i64.wrap ((k:Int)+1)=(k:Int)+1:=iW (by omega);have HBA:=q_ (hb.alloc hz (.cells #[.slice Ak (rowN L k) ck] 45));have HXA:=q_ (HX.out.after hba);have bn:(wr.alloc (.cells #[.slice Ak (rowN L k) ck] 45)).cell? ⟨wr.heap.size,0,none⟩=some (.slice Ak (rowN L k) ck):=cell_new1 _ _ _;have v1:=HXA.out.2.1;have vl:=HXA.out.2.2;have ya:(wr.alloc (.cells #[.slice Ak (rowN L k) ck] 45)).cell? ⟨b',off'+k,none⟩=some (.slice Bk (rowN M k) dk):=(hba.cell (p:=⟨b',off'+k,none⟩) (by show b'<wr.heap.size; omega)).trans y0
    have cx0:=HX.out.1;have hb'l:b'<wr.heap.size:=by omega
    obtain ⟨wa,hwa⟩:∃ wa,wr.alloc (.cells #[.slice Ak (rowN L k) ck] 45)=wa:=⟨_,rfl⟩;have hwz:wa.heap.size=wr.heap.size+1:=by rw [<- hwa]; simp
    have hwx:w.heap.size<wa.heap.size:=by omega
    have hbw:b'<wa.heap.size:=by omega
    have haw:wr.heap.size<wa.heap.size:=by omega
    have HKEEP:=q_ (show ∀ w',Below wa.heap.size wa w'->(w'.cell? ⟨w.heap.size,1,none⟩=some (.slice (some ⟨b',off',none⟩) q d)/\w'.cell? ⟨b',off'+k,none⟩=some (.slice Bk (rowN M k) dk)/\w'.cell? ⟨wr.heap.size,0,none⟩=some (.slice Ak (rowN L k) ck)) from fun w' hw=>by
     rw [hwa] at v1 ya bn;exact ⟨(hw.cell (by exact hwx)).trans v1,(hw.cell (by exact hbw)).trans ya,(hw.cell (by exact haw)).trans bn⟩)
    obtain ⟨e0,e1,e2,e3,ok,hE⟩:=endV_ex (lstB (rowZ L k) (rowN L k) (rowZ M k) (rowN M k)) (-1) (thrL (rowZ L k) (rowN L k) (rowZ M k) (rowN M k)) (thrN (rowZ L k) (rowN L k) (rowZ M k) (rowN M k));have HE:=q_ hE;clear hc hc' hx hy hrec hrec' hb hba hE vl;go_upto_region 7 with fail
    rw [hwa] at HR1 HR2 HBA HXA v1 ya bn;try rw [hwa]
    clear hwa;go_cut [7,8,15] from 15 to 39 (fun v7 v8 v15 wx=>(∃ g,v7 = .pointer (some ⟨g,0,none⟩)/\Hid (Box4 wx g e0 e1 e2 e3))/\v8 = .bool ok/\v15 = .int .i64 k/\Hid (Below wa.heap.size wa wx))
    case first =>
     refine wp_region_held_drew (S:=fun w'=>w'.cell? ⟨w.heap.size,1,none⟩=some (.slice (some ⟨b',off',none⟩) q d)/\w'.cell? ⟨b',off'+k,none⟩=some (.slice Bk (rowN M k) dk)/\w'.cell? ⟨wr.heap.size,0,none⟩=some (.slice Ak (rowN L k) ck)) (by kernel_rfl) (by exact ⟨v1,ya,bn⟩) (fun hHeld => ?_);refine tk 0 21 rfl rfl ?_;try simp only [Act.put,ly3]
     refine tk 1 22 rfl rfl ?_;try simp only [Act.put,ly3]
     refine tk 2 23 rfl rfl ?_;try simp only [Act.put,ly3]
     refine tk 3 24 rfl rfl ?_;try simp only [Act.put,ly3]
     refine tk 4 25 rfl rfl ?_;try simp only [Act.put,ly3]
     refine tk 5 26 rfl rfl ?_;try simp only [Act.put,ly3]
     refine rd2 6 10 rfl rfl (fun K hK=>?_) fun K hK=>?_
     ·go_simp
      refine (iLst_any _ _ _ (rowZ L k) _ _ _ (rowZ M k) _ (by exact HR1.out.drewN 1) hrk (by exact HR2.out.drewN 1) hsk).mono ?_;rintro e w9 ⟨rfl,hbx⟩;rw [HE.out];have hb9:=below_undrew hbx;have HB9:=q_ hb9;refine hK.out _ _ (by exact HKEEP.out w9 HB9.out) (fun hHeld => ?_);clear hK K hb9 hbx;try simp only [Act.put,ly3]
      refine tk 7 20 rfl rfl ?_;try simp only [Act.put,ly3]
      refine tk 8 28 rfl rfl ?_;try simp only [Act.put,ly3]
      refine tk 9 29 rfl rfl ?_;try simp only [Act.put,ly3]
      refine rd1 10 rfl fun K hK=>?_;go_simp
      have ba:=(Below.refl w9.heap.size w9).alloc (Nat.le_refl _) (.cells #[.int .i64 0,.int .i64 0,.int .i64 0,.int .i64 0] 66);have HAL:=q_ (alloc_at w9 (.cells #[.int .i64 0,.int .i64 0,.int .i64 0,.int .i64 0] 66));have HBa:=q_ (below_then HB9.out ba);clear ba;refine hK.out _ _ (by exact HKEEP.out _ HBa.out) (fun hHeld => ?_);clear hK K;try simp only [Act.put,ly3]
      refine rd1 11 rfl fun K hK=>?_;refine step_stRow rfl 66 (.tmp 7) (.tmp 28) rfl w9.heap.size #[.int .i64 e0,.int .i64 e1,.int .i64 e2,.int .i64 e3] rfl rfl 66 #[.int .i64 0,.int .i64 0,.int .i64 0,.int .i64 0] (by exact HAL.out) (by kernel_rfl) rfl (by simp [Value.oneCell']) ?_;intro wd O Y;have HY:=q_ (box4_of Y);have HBd:=q_ (HBa.out.trans (O.below (B:=wa.heap.size) HB9.out.size));clear O Y;refine hK.out _ _ (by exact HKEEP.out _ HBd.out) (fun hHeld => ?_);clear hK K;try simp only [Act.put,ly3]
      refine tk 12 8 rfl rfl ?_;try simp only [Act.put,ly3]
      refine wpAnyH_done (by kernel_rfl) ?_ _;go_wp2_with fail
      go_meet
      case rel=>exact ⟨⟨_,rfl,HY⟩,rfl,rfl,HBd⟩
     ·go_simp
      have ba:=(Below.refl wa.heap.size wa).alloc (Nat.le_refl _) (.cells #[.int .i64 0,.int .i64 0,.int .i64 0,.int .i64 0] 66);have HAL:=q_ (alloc_at wa (.cells #[.int .i64 0,.int .i64 0,.int .i64 0,.int .i64 0] 66));have HBa:=q_ ba;have HRa:=q_ (HR1.out.after ba);have HRb:=q_ (HR2.out.after ba);clear ba;refine hK.out _ _ (by first | exact HKEEP.out _ HBa.out | exact HKEEP.out _ (below_drewN HBa.out 1)) (fun hHeld => ?_);clear hK K;try simp only [Act.put,ly3]
      refine rd1 6 rfl fun K hK=>?_;go_simp
      refine (iLst_any _ _ _ (rowZ L k) _ _ _ (rowZ M k) _ (by exact HRa.out.drewN 1) hrk (by exact HRb.out.drewN 1) hsk).mono ?_;rintro e w9 ⟨rfl,hbx⟩;rw [HE.out];have hb9:=below_undrew hbx;have HB9:=q_ (below_then HBa.out hb9);have HAM:=q_ ((hb9.block wa.heap.size (by simp)).trans HAL.out);clear hb9 hbx;refine hK.out _ _ (by exact HKEEP.out _ HB9.out) (fun hHeld => ?_);clear hK K;try simp only [Act.put,ly3]
      refine tk 7 20 rfl rfl ?_;try simp only [Act.put,ly3]
      refine tk 8 28 rfl rfl ?_;try simp only [Act.put,ly3]
      refine tk 9 29 rfl rfl ?_;try simp only [Act.put,ly3]
      refine rd1 11 rfl fun K hK=>?_;refine step_stRow rfl 66 (.tmp 7) (.tmp 28) rfl wa.heap.size #[.int .i64 e0,.int .i64 e1,.int .i64 e2,.int .i64 e3] (congrArg (fun z=>Value.pointer (some ⟨z,0,none⟩)) hwz.symm) rfl 66 #[.int .i64 0,.int .i64 0,.int .i64 0,.int .i64 0] (by exact HAM.out) (by kernel_rfl) rfl (by simp [Value.oneCell']) ?_;intro wd O Y;have HY:=q_ (box4_of Y);have HBd:=q_ (HB9.out.trans (O.below (B:=wa.heap.size) (Nat.le_refl _)));clear O Y;refine hK.out _ _ (by exact HKEEP.out _ HBd.out) (fun hHeld => ?_);clear hK K;try simp only [Act.put,ly3]
      refine tk 12 8 rfl rfl ?_;try simp only [Act.put,ly3]
      refine wpAnyH_done (by kernel_rfl) ?_ _;go_wp2_with fail
      go_meet
      case rel=>exact ⟨⟨wa.heap.size,by rw [hwz],HY⟩,rfl,rfl,HBd⟩
    case rest =>
     clear v1 ya bn HKEEP x0 y0 cx0;obtain ⟨⟨g,rfl,HY⟩,rfl,rfl,HB9⟩:=hcut;have HBr:=q_ (HBA.out.trans (HB9.out.mono (by omega)));have HXr:=q_ (HXA.out.after HB9.out);have HE':=HE.out;cases hrs:ribS L M k
     ·have hN:=push_none hrs
      rw [hN] at HE';obtain ⟨_,_,_,_,rfl⟩:e0=0/\e1=0/\e2=0/\e3=0/\ok=false:=by
       simp at HE';obtain ⟨⟨h1,h2,h3,h4⟩,h5⟩:=HE';exact ⟨h1.symm,h2.symm,h3.symm,h4.symm,h5⟩
      have HF:=q_ (vpV_f (vsB_k (q:=q) hlt hrs));clear hN HE' hrs;go_wp2;go_ret2;exact ⟨by rw [HF.out]; rfl,HBr.out⟩
     ·obtain ⟨H',V',U',D',hN,hF⟩:=push_names hrs
      rw [hN] at HE';obtain ⟨rfl,rfl,rfl,rfl,rfl⟩:H'=e0/\V'=e1/\U'=e2/\D'=e3/\true=ok:=by
       simp at HE';obtain ⟨⟨h1,h2,h3,h4⟩,h5⟩:=HE';exact ⟨h1,h2,h3,h4,h5.symm⟩
      have HFF:=q_ hF;have HALL2:Hid (∀ j,j<k+1->ribS L M j=true):=q_ (fun j hj=>by
       by_cases e:j=k
       ·rw [e]; exact hrs
       ·exact HALL.out j (by omega))
      have hbd:=pTo_bd HALL2.out;have es:IntKind.i64.wrap (pTo L M k+cdv H' D')=pTo L M (k+1):=by
       rw [<- hF.p];exact IntWalk.i64_in (pTo L M (k+1)) (by omega)
      obtain ⟨z0,z1,z2,z3⟩:=HY.out.1;clear hN HE' hrs hF hbd;go_wp2_with fail
      refine (ceilV_any _ _ _ HFF.out.h HFF.out.d).mono ?_;rintro e w8 ⟨rfl,nd,rfl⟩;have HXz:=q_ (show Box2 (World.drewN _ nd) _ _ _ from HXr.out);have HBz:=q_ (below_drewN HBr.out nd);clear z0 z1 z2 z3 HXr HBr HY;go_wp2;go_roundw
      case rel=>exact ⟨k+1,by omega,by go_num,by rfl,HALL2,HXz,HBz⟩
      case measure=>simp [intOf]; omega
   ·obtain rfl:q=k:=by omega
    have HF:=q_ (vpV_t (vsB_all HVB.out HALL.out));go_wp2;go_ret2;exact ⟨by rw [HF.out]; rfl,HB.out⟩
end
end X
end Go.Proofs.YtjcgklifabcfkaaGreat
