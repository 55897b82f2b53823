/-
  Texts that the law stands on, part 22.
-/
import Derived.Test.YtjcgklifabcfkaaGreatV21
import Derived.Deep.DeepAppendRoom
set_option maxRecDepth 100000
set_option linter.unusedVariables false
set_option linter.unusedSimpArgs false
set_option maxHeartbeats 12800000
namespace Go.Proofs.YtjcgklifabcfkaaGreat
section
open Go.RowKit
theorem run_appX {P:Program} (w:World) (base:Nat) (t ty E:TypeId) (Kr bytes:Nat) (z:Value) (ht:P.underlying t=some (.slice E)) (hinfo:(P.info? E).map (fun i=>(i.zero,i.size,i.bytes))=some (some z,Kr,bytes)) (hzc:z.cells.size=Kr) (hK:0<Kr) (hby:bytes<=1024)
  (v:Value) (n:Nat) (xs:List Value) (hown:w.ownsRow base E Kr v n xs) (a:Addr) (m c:Nat) (news:List Value) (hl:news.length=m*Kr) (hnews:∀ j u,news[j]?=some u->w.cell? (a.add j)=some u) (h1:∀ u ∈ news,u.oneCell'=true)
  (hn:n+m<=1048576) (hbase:base<=w.heap.size) :
  ∃ v' w',(Builtin.append_ #[t,t] ty #[v,.slice (some a) m c]).run P w = .ok v' w'/\w'.ownsRow base E Kr v' (n+m) (xs ++ news)/\w.grownBy w' v.ownBlock/\(∀ g,v'.ownBlock=some g->v.ownBlock=some g ∨ w.heap.size<=g)/\(v' = .slice none 0 0->v = .slice none 0 0):=by
 obtain ⟨i0,hi0,hz0,hz1,hz2⟩:=info_parts hinfo;have hbb:(n+m)*bytes<=1048576*1024:=Nat.mul_le_mul hn hby;obtain ⟨v1,w1,hr1,ho1,hg1,hnil⟩:=run_append_own (P:=P) (w:=w) base t ty E i0 z Kr bytes ht hi0 hz0 hz1 hz2 hzc hK v n xs hown a m c news hl hnews h1 (by unfold maxLen; omega) (by omega) hbase
 refine ⟨v1,w1,hr1,ho1,hg1,fun g hg => ?_,fun h=>(hnil.1 h).1⟩;have key:∀ v2 w2,(Builtin.append_ #[t,t] ty #[v,.slice (some a) m c]).run P w = .ok v2 w2->v1=v2/\w1=w2:=fun v2 w2 h=>by
  rw [hr1] at h;simp at h;exact h
 rcases hown.2 with ⟨hv,hn0⟩ | ⟨g0,cap,cur,hv,hb0,h3,h4,h5,h6,h7⟩
 ·subst hv hn0
  have hx:xs = []:=List.eq_nil_of_length_eq_zero (by rw [hown.1]; omega)
  subst hx;obtain ⟨v2,w2,hr2,ho2,_,_⟩:=run_append_own (P:=P) (w:=w) w.heap.size t ty E i0 z Kr bytes ht hi0 hz0 hz1 hz2 hzc hK (.slice none 0 0) 0 [] (World.ownsRow_nil _ _ _ _) a m c news hl hnews h1 (by unfold maxLen; omega) (by omega) (Nat.le_refl _)
  obtain ⟨rfl,rfl⟩:=key _ _ hr2;exact .inr (World.ownsRow.lt ho2 g hg).1
 ·subst hv
  by_cases hr:n+m<=cap
  ·obtain ⟨w2,hr2,_,_⟩:=run_append_own_spare (P:=P) (w:=w) base t ty E i0 Kr ht hi0 hz1 g0 n cap xs hown a m c news hl hnews h1 hr
   obtain ⟨rfl,rfl⟩:=key _ _ hr2;exact .inl hg
  ·obtain ⟨v2,w2,hr2,ho2,_⟩:=run_append_arg_grows (P:=P) (w:=w) t ty E i0 z Kr bytes ht hi0 hz0 hz1 hz2 hzc hK ⟨g0,0,none⟩ n cap xs hown.1 (fun j u hj=>by
     rw [Go.WideShapes.add_plain,Nat.zero_add];have e:(cur.toList.take (n*Kr))[j]?=some u:=by rw [h7]; exact hj
     rw [List.getElem?_take] at e;split at e
     ·simpa [World.cell?,h3] using e
     ·simp at e) a m c news hl hnews (by omega) (by unfold maxLen; omega) (by omega)
   obtain ⟨rfl,rfl⟩:=key _ _ hr2;exact .inr (World.ownsRow.lt ho2 g hg).1
def StayBut (v:Value) (w w':World):Prop:=∀ g,g<w.heap.size->v.ownBlock ≠ some g->w'.heap[g]?=w.heap[g]?
theorem stay_of_grown {v:Value} {w w':World} (h:w.grownBy w' v.ownBlock):StayBut v w w':=fun g hg hne=>grown_block h g hg (fun e=>hne e.symm)
theorem StayBut.below {v:Value} {w w':World} (h:w.grownBy w' v.ownBlock) {base:Nat} (hb:base<=w.heap.size) (ho:∀ g,v.ownBlock=some g->base<=g):Below base w w' :=
 (Below.refl base w).grown h hb ho
structure AppRes (w w':World) (base:Nat) (v v':Value):Prop where
 below:Below base w w'
 stay:StayBut v w w'
 where_:∀ g,v'.ownBlock=some g->v.ownBlock=some g ∨ w.heap.size<=g
 size:w.heap.size<=w'.heap.size
theorem wp_appRX {P:Program} {o:Oper} {a:Act} {w:World} {K:Act->World->Prop} {Q:Exit->Act->World->Prop} (s x:Operand) (t:TypeId)
  (ho:o.op = .call { callee := .builtin .append,args := #[s,x],argTypes := #[t,t] })
  (base:Nat) (E:TypeId) (Kr bytes:Nat) (zc:Array Value) (ht:P.underlying t=some (.slice E)) (hinfo:(P.info? E).map (fun i=>(i.zero,i.size,i.bytes))=some (some (.agg zc),Kr,bytes)) (hzc:zc.size=Kr) (hK:0<Kr) (hby:bytes<=1024)
  (v:Value) (n:Nat) (xs:List Int) (hs:a.eval s=v) (hown:OwnR w base E Kr v n xs) (g m c:Nat) (ys:List Int) (hx:a.eval x = .slice (some ⟨g,0,none⟩) m c) (hy:ys.length=m*Kr)
  (hg:∀ i,i<m*Kr->w.cell? ⟨g,i,none⟩=some (.int .i64 (nth ys i))) (hn:n+m<=1048576) (hbase:base<=w.heap.size) (hnn:v ≠ .slice none 0 0)
  (h:∀ g' cap' w',OwnR w' base E Kr (.slice (some ⟨g',0,none⟩) (n+m) cap') (n+m) (xs ++ ys)->AppRes w w' base v (.slice (some ⟨g',0,none⟩) (n+m) cap')->K (a.put o.dst (.slice (some ⟨g',0,none⟩) (n+m) cap')) w'):Oper.wp P o a w K Q:=by
 obtain ⟨v',w',hr,ho',hgr,hwh,hnil⟩:=run_appX (P:=P) w base t o.type E Kr bytes (.agg zc) ht hinfo (by simpa [Value.cells] using hzc) hK hby v n _ hown.1 ⟨g,0,none⟩ m c (ys.map (Value.int .i64)) (by simpa using hy) (fun j u hj=>by
   have hjl:j<ys.length:=by
    have:=(List.getElem?_eq_some_iff.1 hj).1;simpa using this
   rw [List.getElem?_map,List.getElem?_eq_getElem hjl] at hj;simp at hj;subst hj;rw [Go.WideShapes.add_plain,Nat.zero_add,hg j (by rw [<- hy]; exact hjl),nth_get ys j hjl]) (fun u hu=>by obtain ⟨z,_,rfl⟩:=List.mem_map.1 hu; rfl) hn hbase
 have h':OwnR w' base E Kr v' (n+m) (xs ++ ys):=⟨by rw [List.map_append]; exact ho',by rw [List.length_append,hown.2,hy,Nat.add_mul]⟩;unfold Oper.wp execOp;simp only [ho,resolve,invoke,builtin,Sem.run_bind,Sem.run_pure,Result.andThen_ok,List.map_toArray,List.map_cons,List.map_nil,hs,hx,hr];rcases h'.form with ⟨e,_,_⟩ | ⟨g',cap',rfl,_⟩
 ·exact absurd (hnil e) hnn
 ·exact h g' cap' w' h' ⟨StayBut.below hgr hbase hown.ownLt,stay_of_grown hgr,hwh,hgr.size⟩
theorem step_appRX {P:Program} {ops:Array Oper} {o:Oper} {a:Act} {w:World} {K:Act->World->Prop} {Q:Exit->Act->World->Prop} {F:Prop} (hgd:o.guard=none) (s x:Operand) (t:TypeId)
  (ho:o.op = .call { callee := .builtin .append,args := #[s,x],argTypes := #[t,t] })
  (base:Nat) (E:TypeId) (Kr bytes:Nat) (zc:Array Value) (ht:P.underlying t=some (.slice E)) (hinfo:(P.info? E).map (fun i=>(i.zero,i.size,i.bytes))=some (some (.agg zc),Kr,bytes)) (hzc:zc.size=Kr) (hK:0<Kr) (hby:bytes<=1024)
  (v:Value) (n:Nat) (xs:List Int) (hs:a.eval s=v) (hown:OwnR w base E Kr v n xs) (g m c:Nat) (ys:List Int) (hx:a.eval x = .slice (some ⟨g,0,none⟩) m c) (hy:ys.length=m*Kr)
  (hg:∀ i,i<m*Kr->w.cell? ⟨g,i,none⟩=some (.int .i64 (nth ys i))) (hn:n+m<=1048576) (hbase:base<=w.heap.size) (hnn:v ≠ .slice none 0 0)
  (h:∀ g' cap' w',OwnR w' base E Kr (.slice (some ⟨g',0,none⟩) (n+m) cap') (n+m) (xs ++ ys)->AppRes w w' base v (.slice (some ⟨g',0,none⟩) (n+m) cap')->K (a.put o.dst (.slice (some ⟨g',0,none⟩) (n+m) cap')) w'):if Region.wanted o (yielded ops a.tmps)=true then Oper.wp P o a w K Q else F:=by
 have hw:Region.wanted o (yielded ops a.tmps)=true:=by simp [Region.wanted,hgd]
 rw [if_pos hw];exact wp_appRX s x t ho base E Kr bytes zc ht hinfo hzc hK hby v n xs hs hown g m c ys hx hy hg hn hbase hnn h
theorem wpList_appRX {P:Program} {ops:Array Oper} {o:Oper} {a:Act} {w:World} {rest:List Oper} {Q:Exit->Act->World->Prop} (hgd:o.guard=none) (s x:Operand) (t:TypeId)
  (ho:o.op = .call { callee := .builtin .append,args := #[s,x],argTypes := #[t,t] })
  (base:Nat) (E:TypeId) (Kr bytes:Nat) (zc:Array Value) (ht:P.underlying t=some (.slice E)) (hinfo:(P.info? E).map (fun i=>(i.zero,i.size,i.bytes))=some (some (.agg zc),Kr,bytes)) (hzc:zc.size=Kr) (hK:0<Kr) (hby:bytes<=1024)
  (v:Value) (n:Nat) (xs:List Int) (hs:a.eval s=v) (hown:OwnR w base E Kr v n xs) (g m c:Nat) (ys:List Int) (hx:a.eval x = .slice (some ⟨g,0,none⟩) m c) (hy:ys.length=m*Kr)
  (hg:∀ i,i<m*Kr->w.cell? ⟨g,i,none⟩=some (.int .i64 (nth ys i))) (hn:n+m<=1048576) (hbase:base<=w.heap.size) (hnn:v ≠ .slice none 0 0)
  (h:∀ g' cap' w',OwnR w' base E Kr (.slice (some ⟨g',0,none⟩) (n+m) cap') (n+m) (xs ++ ys)->AppRes w w' base v (.slice (some ⟨g',0,none⟩) (n+m) cap')->wpList P ops Q rest (a.put o.dst (.slice (some ⟨g',0,none⟩) (n+m) cap')) w'):wpList P ops Q (o :: rest) a w :=
 wpList_plain hgd fun _ hK2=>wp_appRX s x t ho base E Kr bytes zc ht hinfo hzc hK hby v n xs hs hown g m c ys hx hy hg hn hbase hnn (fun g' cap' w' h1 h2=>hK2 _ _ (h g' cap' w' h1 h2))
theorem wp_appCX {P:Program} {o:Oper} {a:Act} {w:World} {K:Act->World->Prop} {Q:Exit->Act->World->Prop} (s x:Operand) (t:TypeId)
  (ho:o.op = .call { callee := .builtin .append,args := #[s,x],argTypes := #[t,t] })
  (base:Nat) (E:TypeId) (bytes:Nat) (zv:Value) (ht:P.underlying t=some (.slice E)) (hinfo:(P.info? E).map (fun i=>(i.zero,i.size,i.bytes))=some (some zv,1,bytes)) (hzc:zv.cells.size=1) (hby:bytes<=1024)
  (v:Value) (n:Nat) (cs:List Value) (hs:a.eval s=v) (hown:OwnC w base E v n cs) (g c:Nat) (u:Value) (hu1:u.oneCell'=true) (hx:a.eval x = .slice (some ⟨g,0,none⟩) 1 c)
  (hg:w.cell? ⟨g,0,none⟩=some u) (hn:n+1<=1048576) (hbase:base<=w.heap.size)
  (h:∀ g' cap' w',OwnC w' base E (.slice (some ⟨g',0,none⟩) (n+1) cap') (n+1) (cs ++ [u])->AppRes w w' base v (.slice (some ⟨g',0,none⟩) (n+1) cap')->K (a.put o.dst (.slice (some ⟨g',0,none⟩) (n+1) cap')) w'):Oper.wp P o a w K Q:=by
 obtain ⟨v',w',hr,ho',hgr,hwh,_⟩:=run_appX (P:=P) w base t o.type E 1 bytes zv ht hinfo hzc (by omega) hby v n cs hown.1 ⟨g,0,none⟩ 1 c [u] (by simp) (fun j y hj=>by
   match j,hj with
   | 0,hj=>simp at hj; subst hj; simpa [Addr.add] using hg) (fun y hy=>by simp at hy; subst hy; exact hu1) hn hbase
 have h':OwnC w' base E v' (n+1) (cs ++ [u]):=⟨ho',by simp [hown.2]⟩;unfold Oper.wp execOp;simp only [ho,resolve,invoke,builtin,Sem.run_bind,Sem.run_pure,Result.andThen_ok,List.map_toArray,List.map_cons,List.map_nil,hs,hx,hr];rcases h'.form with ⟨_,h2,_⟩ | ⟨g',cap',rfl,_⟩
 ·omega
 ·exact h g' cap' w' h' ⟨StayBut.below hgr hbase hown.ownLt,stay_of_grown hgr,hwh,hgr.size⟩
theorem step_appCX {P:Program} {ops:Array Oper} {o:Oper} {a:Act} {w:World} {K:Act->World->Prop} {Q:Exit->Act->World->Prop} {F:Prop} (hgd:o.guard=none) (s x:Operand) (t:TypeId)
  (ho:o.op = .call { callee := .builtin .append,args := #[s,x],argTypes := #[t,t] })
  (base:Nat) (E:TypeId) (bytes:Nat) (zv:Value) (ht:P.underlying t=some (.slice E)) (hinfo:(P.info? E).map (fun i=>(i.zero,i.size,i.bytes))=some (some zv,1,bytes)) (hzc:zv.cells.size=1) (hby:bytes<=1024)
  (v:Value) (n:Nat) (cs:List Value) (hs:a.eval s=v) (hown:OwnC w base E v n cs) (g c:Nat) (u:Value) (hu1:u.oneCell'=true) (hx:a.eval x = .slice (some ⟨g,0,none⟩) 1 c)
  (hg:w.cell? ⟨g,0,none⟩=some u) (hn:n+1<=1048576) (hbase:base<=w.heap.size)
  (h:∀ g' cap' w',OwnC w' base E (.slice (some ⟨g',0,none⟩) (n+1) cap') (n+1) (cs ++ [u])->AppRes w w' base v (.slice (some ⟨g',0,none⟩) (n+1) cap')->K (a.put o.dst (.slice (some ⟨g',0,none⟩) (n+1) cap')) w'):if Region.wanted o (yielded ops a.tmps)=true then Oper.wp P o a w K Q else F:=by
 have hw:Region.wanted o (yielded ops a.tmps)=true:=by simp [Region.wanted,hgd]
 rw [if_pos hw];exact wp_appCX s x t ho base E bytes zv ht hinfo hzc hby v n cs hs hown g c u hu1 hx hg hn hbase h
theorem wpList_appCX {P:Program} {ops:Array Oper} {o:Oper} {a:Act} {w:World} {rest:List Oper} {Q:Exit->Act->World->Prop} (hgd:o.guard=none) (s x:Operand) (t:TypeId)
  (ho:o.op = .call { callee := .builtin .append,args := #[s,x],argTypes := #[t,t] })
  (base:Nat) (E:TypeId) (bytes:Nat) (zv:Value) (ht:P.underlying t=some (.slice E)) (hinfo:(P.info? E).map (fun i=>(i.zero,i.size,i.bytes))=some (some zv,1,bytes)) (hzc:zv.cells.size=1) (hby:bytes<=1024)
  (v:Value) (n:Nat) (cs:List Value) (hs:a.eval s=v) (hown:OwnC w base E v n cs) (g c:Nat) (u:Value) (hu1:u.oneCell'=true) (hx:a.eval x = .slice (some ⟨g,0,none⟩) 1 c)
  (hg:w.cell? ⟨g,0,none⟩=some u) (hn:n+1<=1048576) (hbase:base<=w.heap.size)
  (h:∀ g' cap' w',OwnC w' base E (.slice (some ⟨g',0,none⟩) (n+1) cap') (n+1) (cs ++ [u])->AppRes w w' base v (.slice (some ⟨g',0,none⟩) (n+1) cap')->wpList P ops Q rest (a.put o.dst (.slice (some ⟨g',0,none⟩) (n+1) cap')) w'):wpList P ops Q (o :: rest) a w :=
 wpList_plain hgd fun _ hK2=>wp_appCX s x t ho base E bytes zv ht hinfo hzc hby v n cs hs hown g c u hu1 hx hg hn hbase (fun g' cap' w' h1 h2=>hK2 _ _ (h g' cap' w' h1 h2))
theorem AppRes.cellStay {w w':World} {base:Nat} {v v':Value} (h:AppRes w w' base v v') {p:Addr} (hp:p.block<w.heap.size) (hne:∀ g,v.ownBlock=some g->g ≠ p.block):w'.cell? p=w.cell? p :=
 World.cell?_of_block (w:=w) (h.stay p.block hp (fun e=>hne _ e rfl))
theorem OwnC.blockLt {w:World} {base:Nat} {E:TypeId} {n:Nat} {v:Value} {cs:List Value} (h:OwnC w base E v n cs) (g:Nat) (hg:v.ownBlock=some g):g<w.heap.size:=(World.ownsRow.lt h.1 g hg).2
theorem OwnR.lowG {w:World} {base base':Nat} {E:TypeId} {K n:Nat} {v:Value} {xs:List Int} (h:OwnR w base E K v n xs) (hb:base'<=base):OwnR w base' E K v n xs:=by
 refine ⟨⟨h.1.1,?_⟩,h.2⟩;rcases h.1.2 with h2 | ⟨g,cap,cur,h1,h2,h3⟩
 ·exact .inl h2
 ·exact .inr ⟨g,cap,cur,h1,by omega,h3⟩
theorem OwnR.ofBlock {w w':World} {base:Nat} {E:TypeId} {K n:Nat} {v:Value} {xs:List Int} (h:OwnR w base E K v n xs) (e:∀ g,v.ownBlock=some g->w'.heap[g]?=w.heap[g]?):OwnR w' base E K v n xs:=by
 refine ⟨⟨h.1.1,?_⟩,h.2⟩;rcases h.1.2 with h2 | ⟨g,cap,cur,h1,h2,h3,hr⟩
 ·exact .inl h2
 ·exact .inr ⟨g,cap,cur,h1,h2,(e g (by rw [h1]; simp [Value.ownBlock])).trans h3,hr⟩
theorem OwnR.typeAt {w:World} {base:Nat} {E:TypeId} {K n:Nat} {v:Value} {xs:List Int} (h:OwnR w base E K v n xs) (g:Nat) (hg:v.ownBlock=some g):∃ c,w.heap[g]?=some (.cells c E):=by
 rcases h.1.2 with ⟨h1,_⟩ | ⟨g0,cap,cur,h1,_,h3,_⟩
 ·rw [h1] at hg; simp [Value.ownBlock] at hg
 ·rw [h1] at hg
  simp [Value.ownBlock] at hg;subst hg;exact ⟨_,h3⟩
theorem OwnC.typeAt {w:World} {base:Nat} {E:TypeId} {n:Nat} {v:Value} {cs:List Value} (h:OwnC w base E v n cs) (g:Nat) (hg:v.ownBlock=some g):∃ c,w.heap[g]?=some (.cells c E):=by
 rcases h.1.2 with ⟨h1,_⟩ | ⟨g0,cap,cur,h1,_,h3,_⟩
 ·rw [h1] at hg; simp [Value.ownBlock] at hg
 ·rw [h1] at hg
  simp [Value.ownBlock] at hg;subst hg;exact ⟨_,h3⟩
structure GN (w:World) (base:Nat) (T E:TypeId) (K:Nat) (v:Value) (n:Nat) (cs:List Value) (L:List (Nat × List Int)):Prop where
 cells:OwnC w base T v n cs
 row:∀ i,i<n->∃ g c,cs[i]?=some (.slice (some ⟨g,0,none⟩) (rowN L i) c)/\OwnR w base E K (.slice (some ⟨g,0,none⟩) (rowN L i) c) (rowN L i) (rowZ L i)
 apart:∀ i j,i<n->j<n->i ≠ j->∀ g,(cs[i]?).bind Value.ownBlock=some g->(cs[j]?).bind Value.ownBlock ≠ some g
section
variable {w w' : World} {base : Nat} {T E : TypeId} {K n : Nat} {v : Value} {cs : List Value} {L : List (Nat × List Int)}
theorem GN.nil:GN w base T E K (.slice none 0 0) 0 [] L:=⟨⟨World.ownsRow_nil _ _ _ _,rfl⟩,fun i hi=>absurd hi (by omega),fun i j hi=>absurd hi (by omega)⟩
theorem GN.keep (h:GN w base T E K v n cs L) (e:∀ g c X,w.heap[g]?=some (.cells c X)->base<=g->X=T ∨ X=E->w'.heap[g]?=w.heap[g]?):GN w' base T E K v n cs L:=by
 refine ⟨h.cells.ofBlock fun g hg => ?_,fun i hi => ?_,h.apart⟩
 ·obtain ⟨c,hc⟩:=h.cells.typeAt g hg
  exact e g c T hc (h.cells.ownLt g hg) (.inl rfl)
 ·obtain ⟨g,c,h1,h2⟩:=h.row i hi
  refine ⟨g,c,h1,h2.ofBlock fun g' hg' => ?_⟩;obtain ⟨c',hc'⟩:=h2.typeAt g' hg';exact e g' c' E hc' (h2.ownLt g' hg') (.inr rfl)
theorem GN.after (h:GN w base T E K v n cs L) (hb:Below w.heap.size w w'):GN w' base T E K v n cs L :=
 h.keep fun g _ _ hg _ _=>hb.block g (Array.getElem?_eq_some_iff.1 hg).1
theorem GN.setCell (h:GN w base T E K v n cs L) {p:Addr} {c:Array Value} {X:TypeId} (hp:w.heap[p.block]?=some (.cells c X)) (h1:X ≠ T) (h2:X ≠ E) (u:Value):GN (w.setCell p u) base T E K v n cs L :=
 h.keep fun g c' X' hg _ hX=>Below.heap_setCell _ _ _ _ (fun e=>by
  rw [e] at hg;rw [hp] at hg;simp at hg;rcases hX with hX | hX
  ·exact h1 (hg.2.trans hX)
  ·exact h2 (hg.2.trans hX))
theorem GN.setLow (h:GN w base T E K v n cs L) {p:Addr} (hp:p.block<base) (u:Value):GN (w.setCell p u) base T E K v n cs L :=
 h.keep fun g c' X' hg hb hX=>Below.heap_setCell _ _ _ _ (by omega)
theorem GN.mono {base':Nat} (h:GN w base T E K v n cs L) (hb:base'<=base):GN w base' T E K v n cs L:=by
 have key:∀ (X:TypeId) (k m:Nat) (u:Value) (xs:List Value),w.ownsRow base X k u m xs->w.ownsRow base' X k u m xs:=fun X k m u xs h=>by
  refine ⟨h.1,?_⟩;rcases h.2 with h2 | ⟨g,cap,cur,h1,h2,h3⟩
  ·exact .inl h2
  ·exact .inr ⟨g,cap,cur,h1,by omega,h3⟩
 refine ⟨⟨key _ _ _ _ _ h.cells.1,h.cells.2⟩,fun i hi => ?_,h.apart⟩;obtain ⟨g,c,h1,h2⟩:=h.row i hi;exact ⟨g,c,h1,key _ _ _ _ _ h2.1,h2.2⟩
theorem GN.nestAt {A:Option Addr} {c:Nat} (h:GN w base T E K (.slice A n c) n cs L) (hL:L.length=n):NestAt w w.heap.size K A n L:=by
 refine ⟨hL,fun hn => ?_⟩;rcases h.cells.form with ⟨_,h2,_⟩ | ⟨g,cap,e,_,_,hgl,hc⟩
 ·omega
 ·simp at e
  obtain ⟨rfl,rfl⟩:=e;refine ⟨g,0,rfl,hgl,fun i hi => ?_⟩;obtain ⟨gi,ci,h1,h2⟩:=h.row i hi;refine ⟨_,ci,by rw [Nat.zero_add,hc i hi,h1],h2.recs,?_⟩;rcases h2.1.2 with ⟨e,_⟩ | ⟨g0,cap0,cur,e,_,_,h4,h5,_⟩
  ·simp at e
  ·simp at e
   exact ⟨by omega,by omega⟩
theorem GN.beside (h:GN w base T E K v n cs L) {u u':Value} {b:Nat} (ha:AppRes w w' b u u') {X:TypeId} (hu:∀ g,u.ownBlock=some g->∃ c,w.heap[g]?=some (.cells c X)) (h1:X ≠ T) (h2:X ≠ E):GN w' base T E K v n cs L :=
 h.keep fun g c' X' hg _ hX=>ha.stay g (Array.getElem?_eq_some_iff.1 hg).1 (fun e=>by
  obtain ⟨c2,hc2⟩:=hu g e;rw [hg] at hc2;simp at hc2;rcases hX with hX | hX
  ·exact h1 (hc2.2.symm.trans hX)
  ·exact h2 (hc2.2.symm.trans hX))
theorem GN.push (h:GN w base T E K v n cs L) (hTE:T ≠ E) {g c:Nat} {v':Value} (hr:OwnR w base E K (.slice (some ⟨g,0,none⟩) (rowN L n) c) (rowN L n) (rowZ L n)) (hnew:∀ i,i<n->(cs[i]?).bind Value.ownBlock ≠ some g)
  (ho:OwnC w' base T v' (n+1) (cs ++ [.slice (some ⟨g,0,none⟩) (rowN L n) c])) (ha:AppRes w w' base v v'):GN w' base T E K v' (n+1) (cs ++ [.slice (some ⟨g,0,none⟩) (rowN L n) c]) L:=by
 have hl:=h.cells.2;have hkeep:∀ u (m:Nat) (xs:List Int),OwnR w base E K u m xs->OwnR w' base E K u m xs:=fun u m xs ho=>ho.ofBlock fun g' hg'=>by
  obtain ⟨c',hc'⟩:=ho.typeAt g' hg';refine ha.stay g' (Array.getElem?_eq_some_iff.1 hc').1 (fun e => ?_);obtain ⟨c2,hc2⟩:=h.cells.typeAt g' e;rw [hc'] at hc2;simp at hc2;exact hTE hc2.2.symm
 refine ⟨ho,fun i hi => ?_,fun i j hi hj hne g' => ?_⟩
 ·by_cases e:i=n
  ·subst e
   exact ⟨g,c,by rw [<- hl]; simp,hkeep _ _ _ hr⟩
  ·obtain ⟨g1,c1,h1,h2⟩:=h.row i (by omega)
   exact ⟨g1,c1,by rw [List.getElem?_append_left (by omega)]; exact h1,hkeep _ _ _ h2⟩
 ·by_cases e1:i=n
  ·subst e1
   rw [List.getElem?_append_right (by omega),hl,Nat.sub_self,List.getElem?_append_left (by omega)];intro h1 h2;simp [Value.ownBlock] at h1;subst h1;exact hnew j (by omega) h2
  ·by_cases e2:j=n
   ·subst e2
    rw [List.getElem?_append_left (by omega),List.getElem?_append_right (by omega),hl,Nat.sub_self];intro h1 h2;simp [Value.ownBlock] at h2;subst h2;exact hnew i (by omega) h1
   ·rw [List.getElem?_append_left (by omega),List.getElem?_append_left (by omega)]
    exact h.apart i j (by omega) (by omega) hne g'
theorem GN.lt (h:GN w base T E K v n cs L) {i g:Nat} (hi:i<n) (hg:(cs[i]?).bind Value.ownBlock=some g):g<w.heap.size:=by
 obtain ⟨g1,c1,h1,h2⟩:=h.row i hi;rw [h1] at hg;obtain ⟨c',hc'⟩:=h2.typeAt g (by simpa using hg);exact (Array.getElem?_eq_some_iff.1 hc').1
end
end
section
open Go.RowKit
def NestG (w:World) (g:Nat) (T E:TypeId) (K n:Nat) (L:List (Nat × List Int)):Prop :=
 ∃ f,RowF w g T n f/\∀ i,i<n->∃ gi ci,f i = .slice (some ⟨gi,0,none⟩) (rowN L i) ci/\rowN L i<=ci/\ci<=maxLen/\RowF w gi E (rowN L i*K) (ints (rowZ L i))
section
variable {w w' : World} {g : Nat} {T E : TypeId} {K n : Nat} {L : List (Nat × List Int)}
theorem NestG.after (h:NestG w g T E K n L) (hb:Below w.heap.size w w'):NestG w' g T E K n L:=by
 obtain ⟨f,h1,h2⟩:=h;refine ⟨f,h1.after hb,fun i hi => ?_⟩;obtain ⟨gi,ci,e1,e2,e3,e4⟩:=h2 i hi;exact ⟨gi,ci,e1,e2,e3,e4.after hb⟩
theorem NestG.lt (h:NestG w g T E K n L):g<w.heap.size:=by
 obtain ⟨f,h1,_⟩:=h;exact RowF.lt h1
theorem NestG.get2 (h:NestG w g T E K n L) {i:Nat} (hi:i<n):∃ gi ci,w.cell? ⟨g,i,none⟩=some (.slice (some ⟨gi,0,none⟩) (rowN L i) ci)/\gi<w.heap.size/\∀ j,j<rowN L i*K->w.cell? ⟨gi,j,none⟩=some (.int .i64 (nth (rowZ L i) j)):=by
 obtain ⟨f,h1,h2⟩:=h;obtain ⟨gi,ci,e1,_,_,e4⟩:=h2 i hi;exact ⟨gi,ci,by rw [RowF.cell h1 hi,e1],RowF.lt e4,fun j hj=>RowF.cell e4 hj⟩
theorem NestG.nestAt (h:NestG w g T E K n L) (hL:L.length=n) (hl:∀ i,i<n->(rowZ L i).length=rowN L i*K) (_hr:∀ i,i<n->rowN L i<=1048576):NestAt w w.heap.size K (some ⟨g,0,none⟩) n L:=by
 obtain ⟨f,h1,h2⟩:=h;refine ⟨hL,fun _=>⟨g,0,rfl,RowF.lt h1,fun i hi => ?_⟩⟩;obtain ⟨gi,ci,e1,e2,e3,e4⟩:=h2 i hi;exact ⟨some ⟨gi,0,none⟩,ci,by rw [Nat.zero_add,RowF.cell h1 hi,e1],RowF.recs e4 (hl i hi),e2,e3⟩
end
end
section
open Go.RowKit
theorem row_app_lt {L:List (Nat × List Int)} {x:Nat × List Int} {i:Nat} (h:i<L.length):rowN (L ++ [x]) i=rowN L i/\rowZ (L ++ [x]) i=rowZ L i:=by
 simp [rowN,rowZ,List.getD,List.getElem?_append_left h]
theorem row_app_eq {L:List (Nat × List Int)} {x:Nat × List Int}:rowN (L ++ [x]) L.length=x.1/\rowZ (L ++ [x]) L.length=x.2:=by
 simp [rowN,rowZ,List.getD]
structure DN (w:World) (base:Nat) (T E:TypeId) (K:Nat) (v:Value) (n:Nat) (cs:List Value) (L:List (Nat × List Int)):Prop where
 cells:OwnC w base T v n cs
 row:∀ i,i<n->∃ g c,cs[i]?=some (.slice (some ⟨g,0,none⟩) (rowN L i) c)/\(rowN L i<=c/\c<=maxLen)/\base<=g/\RowF w g E (rowN L i*K) (ints (rowZ L i))/\(rowZ L i).length=rowN L i*K
 len:L.length=n
section
variable {w w' : World} {base : Nat} {T E : TypeId} {K n : Nat} {v : Value} {cs : List Value} {L : List (Nat × List Int)}
theorem DN.nil (w:World) (base:Nat) (T E:TypeId) (K:Nat):DN w base T E K (.slice none 0 0) 0 [] []:=⟨⟨World.ownsRow_nil _ _ _ _,rfl⟩,fun i hi=>absurd hi (by omega),rfl⟩
theorem DN.keep (h:DN w base T E K v n cs L) (e:∀ g c X,w.heap[g]?=some (.cells c X)->base<=g->X=T ∨ X=E->w'.heap[g]?=w.heap[g]?):DN w' base T E K v n cs L:=by
 refine ⟨h.cells.ofBlock fun g hg => ?_,fun i hi => ?_,h.len⟩
 ·obtain ⟨c,hc⟩:=h.cells.typeAt g hg
  exact e g c T hc (h.cells.ownLt g hg) (.inl rfl)
 ·obtain ⟨g,c,h1,h2,h3,h4,h5⟩:=h.row i hi
  obtain ⟨c',hc',_⟩:=id h4;exact ⟨g,c,h1,h2,h3,RowF.of_block h4 (e g c' E hc' h3 (.inr rfl)),h5⟩
theorem DN.after (h:DN w base T E K v n cs L) (hb:Below w.heap.size w w'):DN w' base T E K v n cs L :=
 h.keep fun g _ _ hg _ _=>hb.block g (Array.getElem?_eq_some_iff.1 hg).1
theorem DN.stay (h:DN w base T E K v n cs L) {b:Nat} (hk:∀ k,k<w.heap.size->k ≠ b->w'.heap[k]?=w.heap[k]?) (hb:b<base):DN w' base T E K v n cs L :=
 h.keep fun g _ _ hg h1 _=>hk g (Array.getElem?_eq_some_iff.1 hg).1 (by omega)
theorem DN.only (h:DN w base T E K v n cs L) {b:Nat} (ho:Only b w w') (hb:b<base):DN w' base T E K v n cs L :=
 h.stay (fun k _ hk=>ho.block k hk) hb
theorem DN.setLow (h:DN w base T E K v n cs L) {p:Addr} (hp:p.block<base) (u:Value):DN (w.setCell p u) base T E K v n cs L :=
 h.keep fun g c' X' hg hb hX=>Below.heap_setCell _ _ _ _ (by omega)
theorem DN.beside (h:DN w base T E K v n cs L) {u u':Value} {b:Nat} (ha:AppRes w w' b u u') {X:TypeId} (hu:∀ g,u.ownBlock=some g->∃ c,w.heap[g]?=some (.cells c X)) (h1:X ≠ T) (h2:X ≠ E):DN w' base T E K v n cs L :=
 h.keep fun g c X' hg _ hX=>ha.stay g (Array.getElem?_eq_some_iff.1 hg).1 fun e=>by
  obtain ⟨c',hc'⟩:=hu g e;rw [hc'] at hg;simp at hg;rcases hX with hX | hX
  ·exact h1 (hg.2.trans hX)
  ·exact h2 (hg.2.trans hX)
theorem DN.push {g c m:Nat} {Z:List Int} {v':Value} (h:DN w base T E K v n cs L) (hTE:T ≠ E) (hr:RowF w g E (m*K) (ints Z)) (hZ:Z.length=m*K) (hc:m<=c/\c<=maxLen) (hg:base<=g)
  (ho:OwnC w' base T v' (n+1) (cs ++ [.slice (some ⟨g,0,none⟩) m c])) (ha:AppRes w w' base v v'):DN w' base T E K v' (n+1) (cs ++ [.slice (some ⟨g,0,none⟩) m c]) (L ++ [(m,Z)]):=by
 have key:∀ k M (f:Nat->Value),RowF w k E M f->RowF w' k E M f:=fun k M f hf=>by
  obtain ⟨c',hc',hx⟩:=id hf;refine RowF.of_block hf (ha.stay k (Array.getElem?_eq_some_iff.1 hc').1 fun e => ?_);obtain ⟨c2,hc2⟩:=h.cells.typeAt k e;rw [hc2] at hc';simp at hc';exact hTE hc'.2
 refine ⟨ho,fun i hi => ?_,by simp [h.len]⟩;by_cases e:i<n
 ·obtain ⟨g1,c1,p1,p2,p3,p4,p5⟩:=h.row i e
  have q:=row_app_lt (L:=L) (x:=(m,Z)) (i:=i) (by rw [h.len]; exact e);rw [q.1,q.2];exact ⟨g1,c1,by rw [List.getElem?_append_left (by rw [h.cells.2]; exact e)]; exact p1,p2,p3,key _ _ _ p4,p5⟩
 ·obtain rfl:i=L.length:=by have:=h.len; omega
  have q:=row_app_eq (L:=L) (x:=(m,Z));rw [q.1,q.2];refine ⟨g,c,?_,hc,hg,key _ _ _ hr,hZ⟩;have hl:L.length=cs.length:=by rw [h.len,h.cells.2]
  rw [hl];simp
theorem DN.ex (h:DN w base T E K v n cs L) (hn:0<n):∃ g c,v = .slice (some ⟨g,0,none⟩) n c:=by
 rcases h.cells.form with ⟨_,e,_⟩ | ⟨g0,cap,e,_⟩
 ·omega
 ·exact ⟨g0,cap,e⟩
theorem DN.nestG {g c:Nat} (h:DN w base T E K (.slice (some ⟨g,0,none⟩) n c) n cs L) (hn:0<n):NestG w g T E K n L:=by
 obtain ⟨g0,cap,cur,e,_,h3,h4,_,h6,h7⟩:∃ g0 cap cur,(Value.slice (some ⟨g,0,none⟩) n c) = .slice (some ⟨g0,0,none⟩) n cap/\base<=g0/\w.heap[g0]?=some (.cells cur T (0,0))/\n<=cap/\cap<=maxLen/\cur.size=cap*1/\cur.toList.take (n*1)=cs:=by
  rcases h.cells.1.2 with ⟨_,h2⟩ | h2
  ·omega
  ·exact h2
 simp at e;obtain ⟨rfl,rfl⟩:=e;refine ⟨fun i=>(cs[i]?).getD undef,⟨cur,h3,by omega,fun i hi => ?_⟩,fun i hi => ?_⟩
 ·have e:(cur.toList.take (n*1))[i]?=cs[i]?:=by rw [h7]
  rw [List.getElem?_take,if_pos (by omega),Array.getElem?_toList] at e;have hl:i<cs.length:=by rw [h.cells.2]; exact hi
  rw [e,List.getElem?_eq_getElem hl];simp [hl]
 ·obtain ⟨gi,ci,h1,h2,h3,h4,_⟩:=h.row i hi
  exact ⟨gi,ci,by show (cs[i]?).getD undef=_; rw [h1]; rfl,h2.1,h2.2,h4⟩
theorem DN.weak {base':Nat} (h:DN w base T E K v n cs L) (hb:base'<=base):DN w base' T E K v n cs L:=by
 refine ⟨⟨⟨h.cells.1.1,?_⟩,h.cells.2⟩,fun i hi => ?_,h.len⟩
 ·rcases h.cells.1.2 with h2 | ⟨g,cap,cur,h1,h2,h3⟩
  ·exact .inl h2
  ·exact .inr ⟨g,cap,cur,h1,by omega,h3⟩
 ·obtain ⟨g,c,h1,h2,h3,h4,h5⟩:=h.row i hi
  exact ⟨g,c,h1,h2,by omega,h4,h5⟩
theorem DN.setBox (h:DN w base T E K v n cs L) (hTE:T ≠ E) {p:Addr} {c:Array Value} (hp:w.heap[p.block]?=some (.cells c T)) (hv:∀ g,v.ownBlock=some g->g<p.block) (u:Value):DN (w.setCell p u) base T E K v n cs L:=by
 refine ⟨h.cells.ofBlock fun g hg=>Below.heap_setCell _ _ _ _ (by have:=hv g hg; omega),fun i hi => ?_,h.len⟩
 obtain ⟨g,c,h1,h2,h3,h4,h5⟩:=h.row i hi;refine ⟨g,c,h1,h2,h3,RowF.of_block h4 (Below.heap_setCell _ _ _ _ fun e => ?_),h5⟩;obtain ⟨c',hc',_⟩:=id h4;rw [e,hp] at hc';simp at hc';exact hTE hc'.2
theorem DN.setCell (h:DN w base T E K v n cs L) {p:Addr} {c:Array Value} {X:TypeId} (hp:w.heap[p.block]?=some (.cells c X)) (h1:X ≠ T) (h2:X ≠ E) (u:Value):DN (w.setCell p u) base T E K v n cs L :=
 h.keep fun g c' X' hg _ hX=>Below.heap_setCell _ _ _ _ (fun e=>by
  rw [e] at hg;rw [hp] at hg;simp at hg;rcases hX with hX | hX
  ·exact h1 (hg.2.trans hX)
  ·exact h2 (hg.2.trans hX))
theorem ownR_row {g c:Nat} {xs:List Int} (h:OwnR w base E K (.slice (some ⟨g,0,none⟩) n c) n xs):(n<=c/\c<=maxLen)/\base<=g/\RowF w g E (n*K) (ints xs)/\xs.length=n*K:=by
 have h2:=h.2;rcases h.form with ⟨e,_⟩ | ⟨g1,cap1,e,k1,_,hr⟩
 ·simp at e
 ·simp at e
  obtain ⟨rfl,rfl⟩:=e;refine ⟨?_,k1,hr,h2⟩;rcases h.1.2 with ⟨e,_⟩ | ⟨g1,cap1,cur1,e,_,_,k4,k5,_⟩
  ·simp at e
  ·simp at e
   omega
end
end
namespace X
open Go.RowKit
def VGood (L M:List (Nat × List Int)) (i:Nat):Prop:=archB (rowZ L i) (rowN L i)=true/\rowN M i<=4/\allTo (loadAt (rowZ M i) (rowN L i)) (rowN M i)
structure DvSt (w wr:World) (g:Nat) (A:Option Addr) (n c:Nat) (zs:List Int) (vR vL:Value) (k:Nat) (csR:List Value) (L:List (Nat × List Int)) (j:Nat) (csL:List Value) (M:List (Nat × List Int)):Prop where
 res:RowF wr w.heap.size 31 2 (pairV (.slice none 0 0) (.slice none 0 0))
 box:RowF wr (w.heap.size+1) 31 2 (pairV vR vL)
 ribs:DN wr (w.heap.size+2) 45 110 4 vR k csR L
 loads:DN wr (w.heap.size+2) 46 77 3 vL j csL M
 far:g<w.heap.size
 cur:CurAt wr g A n c
 code:BytesAt wr g A n zs
 below:Below g w wr
 good:∀ i,i<j->VGood L M i
 le:j<=k
structure ArIn (w wr:World) (X b m d:Nat) (Z:List Int):Prop where
 box:RowF wr X 45 1 (fun _ => .slice (some ⟨b,0,none⟩) m d)
 row:RowF wr b 110 (m*4) (ints Z)
 cap:m<=d/\d<=maxLen
 len:Z.length=m*4
 ok:archB Z m=true
 sm:smZ Z 26
 far:w.heap.size+2<=b/\w.heap.size+2<=X
section
variable {w wr w' : World} {g : Nat} {A : Option Addr} {n c : Nat} {zs : List Int} {vR vL : Value} {k : Nat} {csR : List Value} {L : List (Nat × List Int)} {j : Nat} {csL : List Value} {M : List (Nat × List Int)} {X b m d : Nat} {Z : List Int}
theorem ArIn.after (h:ArIn w wr X b m d Z) (hb:Below wr.heap.size wr w'):ArIn w w' X b m d Z:=⟨h.box.after hb,h.row.after hb,h.cap,h.len,h.ok,h.sm,h.far⟩
theorem ArIn.stay (h:ArIn w wr X b m d Z) (hk:KeepB g wr.heap.size wr w') (hg:g<w.heap.size):ArIn w w' X b m d Z :=
 ⟨hk.row h.box (RowF.lt h.box) (by have:=h.far; omega),hk.row h.row (RowF.lt h.row) (by have:=h.far; omega),h.cap,h.len,h.ok,h.sm,h.far⟩
theorem ArIn.only (h:ArIn w wr X b m d Z) (ho:Only g wr w') (hg:g<w.heap.size):ArIn w w' X b m d Z:=h.stay (g:=g) (fun k _ hk=>ho.block k hk) hg
theorem ArIn.swap {b' m' d':Nat} {Z':List Int} (h:ArIn w wr X b m d Z) (hr:RowF wr b' 110 (m'*4) (ints Z')) (hc:m'<=d'/\d'<=maxLen) (hl:Z'.length=m'*4) (ho:archB Z' m'=true) (hs:smZ Z' 26) (hb:w.heap.size+2<=b') (hX:b' ≠ X):ArIn w (wr.setCell ⟨X,0,none⟩ (.slice (some ⟨b',0,none⟩) m' d')) X b' m' d' Z' :=
 ⟨(h.box.set 0 _).congr (fun j hj=>by simp; omega),hr.set_other (by simp; omega) _,hc,hl,ho,hs,hb,h.far.2⟩
theorem DvSt.next (h:DvSt w wr g A n c zs vR vL k csR L j csL M) (hk:KeepB g wr.heap.size wr w') (hc:CurAt w' g A n c) (hb:Below g wr w'):DvSt w w' g A n c zs vR vL k csR L j csL M :=
 ⟨hk.row h.res (RowF.lt h.res) (by have:=h.far; omega),hk.row h.box (RowF.lt h.box) (by have:=h.far; omega),h.ribs.stay hk (by have:=h.far; omega),h.loads.stay hk (by have:=h.far; omega),h.far,hc,h.code.below hb,h.below.trans hb,h.good,h.le⟩
theorem DvSt.only (h:DvSt w wr g A n c zs vR vL k csR L j csL M) (ho:Only g wr w') (hc:CurAt w' g A n c):DvSt w w' g A n c zs vR vL k csR L j csL M:=h.next (fun k _ hk=>ho.block k hk) hc (ho.below (Nat.le_refl _))
theorem DvSt.after (h:DvSt w wr g A n c zs vR vL k csR L j csL M) (hb:Below wr.heap.size wr w'):DvSt w w' g A n c zs vR vL k csR L j csL M :=
 h.next (fun k hk _=>hb.block k hk) (h.cur.after hb) (hb.mono (by have:=h.below.size; have:=h.far; omega))
theorem DvSt.setArch (h:DvSt w wr g A n c zs vR vL k csR L j csL M) (ha:ArIn w wr X b m d Z) (hv:∀ g',vR.ownBlock=some g'->g'<X) (u:Value):DvSt w (wr.setCell ⟨X,0,none⟩ u) g A n c zs vR vL k csR L j csL M:=by
 have hf:=h.far;have hx:=ha.far.2;obtain ⟨cx,hcx,_⟩:=id ha.box;refine ⟨h.res.set_other (by simp; omega) _,h.box.set_other (by simp; omega) _,h.ribs.setBox (by decide) hcx hv u,h.loads.setCell hcx (by decide) (by decide) u,hf,?_,h.code.below ((Below.refl _ _).setCell (by simp; omega) _),h.below.setCell (by simp; omega) _,h.good,h.le⟩
 obtain ⟨i,x,hi,hcc⟩:=h.cur;exact ⟨i,x,hi,RowF.set_other hcc (by simp; omega) _⟩
theorem DvSt.pushR {w5:World} {v':Value} (h:DvSt w wr g A n c zs vR vL k csR L j csL M) (ha:ArIn w wr X b m d Z)
  (ho:OwnC w5 (w.heap.size+2) 45 v' (k+1) (csR ++ [.slice (some ⟨b,0,none⟩) m d])) (hr:AppRes (wr.alloc (.cells #[.slice (some ⟨b,0,none⟩) m d] 45)) w5 (w.heap.size+2) vR v') :
  DvSt w (w5.setCell ⟨w.heap.size+1,0,none⟩ v') g A n c zs v' vL (k+1) (csR ++ [.slice (some ⟨b,0,none⟩) m d]) (L ++ [(m,Z)]) j csL M:=by
 have hb:Below wr.heap.size wr (wr.alloc (.cells #[.slice (some ⟨b,0,none⟩) m d] 45)):=bnw _ _;have hy:=h.after hb;have hay:=ha.after hb;have hf:=h.far;have hl:=h.le;have hlen:=h.ribs.len;refine ⟨(RowF.below hy.res hr.below (by omega)).set_other (by simp) _,((RowF.below hy.box hr.below (by omega)).set 0 v').congr (fun i hi => ?_),DN.setLow (hy.ribs.push (by decide) hay.row hay.len hay.cap hay.far.1 ho hr) (by simp) _,DN.setLow (hy.loads.beside hr (X:=45) (fun g hg=>hy.ribs.cells.typeAt g hg) (by decide) (by decide)) (by simp) _,hf,?_,(hy.code.below (hr.below.mono (by omega))).below ((Below.refl _ _).setCell (by simp; omega) _),(hy.below.trans (hr.below.mono (by omega))).setCell (by simp; omega) _,fun i hi => ?_,by omega⟩
 ·match i,hi with
  | 0,_=>rfl
  | 1,_=>rfl
 ·obtain ⟨i,x,hi,hcc⟩:=hy.cur
  exact ⟨i,x,hi,RowF.set_other (RowF.below hcc hr.below (by omega)) (by simp; omega) _⟩
 ·have e:=row_app_lt (L:=L) (x:=(m,Z)) (i:=i) (by omega)
  unfold VGood;rw [e.1,e.2];exact h.good i hi
theorem ArIn.pushR {w5:World} {v':Value} (ha:ArIn w wr X b m d Z) (hv:∀ g',vR.ownBlock=some g'->g'<X) (hv2:∀ g',vR.ownBlock=some g'->∃ c,wr.heap[g']?=some (.cells c 45))
  (hr:AppRes (wr.alloc (.cells #[.slice (some ⟨b,0,none⟩) m d] 45)) w5 (w.heap.size+2) vR v'):ArIn w (w5.setCell ⟨w.heap.size+1,0,none⟩ v') X b m d Z:=by
 have hb:Below wr.heap.size wr (wr.alloc (.cells #[.slice (some ⟨b,0,none⟩) m d] 45)):=bnw _ _;have hay:=ha.after hb;have hf:=ha.far;have hX:=RowF.lt ha.box;have hB:=RowF.lt ha.row;refine ⟨(RowF.of_block hay.box (hr.stay X (by simp; omega) fun e=>absurd (hv X e) (by omega))).set_other (by simp; omega) _,(RowF.of_block hay.row (hr.stay b (by simp; omega) fun e => ?_)).set_other (by simp; omega) _,ha.cap,ha.len,ha.ok,ha.sm,ha.far⟩
 obtain ⟨c1,h1⟩:=hv2 b e;obtain ⟨c2,h2,_⟩:=id ha.row;rw [h1] at h2;simp at h2
theorem DvSt.pushL {w5:World} {v':Value} {gl q cl:Nat} {Ld:List Int} (h:DvSt w wr g A n c zs vR vL (j+1) csR L j csL M)
  (hd:OwnR (wr.alloc (.cells #[.slice (some ⟨gl,0,none⟩) q cl] 46)) (w.heap.size+2) 77 3 (.slice (some ⟨gl,0,none⟩) q cl) q Ld)
  (ho:OwnC w5 (w.heap.size+2) 46 v' (j+1) (csL ++ [.slice (some ⟨gl,0,none⟩) q cl])) (hr:AppRes (wr.alloc (.cells #[.slice (some ⟨gl,0,none⟩) q cl] 46)) w5 (w.heap.size+2) vL v')
  (hg:archB (rowZ L j) (rowN L j)=true/\q<=4/\allTo (loadAt Ld (rowN L j)) q) :
  DvSt w (w5.setCell ⟨w.heap.size+1,1,none⟩ v') g A n c zs vR v' (j+1) csR L (j+1) (csL ++ [.slice (some ⟨gl,0,none⟩) q cl]) (M ++ [(q,Ld)]):=by
 have hb:Below wr.heap.size wr (wr.alloc (.cells #[.slice (some ⟨gl,0,none⟩) q cl] 46)):=bnw _ _;have hy:=h.after hb;have hf:=h.far;have hlen:=h.loads.len;obtain ⟨k1,k2,k3,k4⟩:=ownR_row hd;refine ⟨(RowF.below hy.res hr.below (by omega)).set_other (by simp) _,((RowF.below hy.box hr.below (by omega)).set 1 v').congr (fun i hi => ?_),DN.setLow (hy.ribs.beside hr (X:=46) (fun g hg=>hy.loads.cells.typeAt g hg) (by decide) (by decide)) (by simp) _,DN.setLow (hy.loads.push (by decide) k3 k4 k1 k2 ho hr) (by simp) _,hf,?_,(hy.code.below (hr.below.mono (by omega))).below ((Below.refl _ _).setCell (by simp; omega) _),(hy.below.trans (hr.below.mono (by omega))).setCell (by simp; omega) _,fun i hi => ?_,Nat.le_refl _⟩
 ·match i,hi with
  | 0,_=>rfl
  | 1,_=>rfl
 ·obtain ⟨i,x,hi,hcc⟩:=hy.cur
  exact ⟨i,x,hi,RowF.set_other (RowF.below hcc hr.below (by omega)) (by simp; omega) _⟩
 ·by_cases e:i<j
  ·have e2:=row_app_lt (L:=M) (x:=(q,Ld)) (i:=i) (by omega)
   unfold VGood;rw [e2.1,e2.2];exact h.good i e
  ·obtain rfl:i=M.length:=by omega
   have e2:=row_app_eq (L:=M) (x:=(q,Ld));unfold VGood;rw [e2.1,e2.2];rw [hlen];exact hg
theorem DvSt.start (hg:g<w.heap.size) (hc:CurAt w g A n c) (h:BytesAt w g A n zs):DvSt w ((w.alloc (.cells #[.slice none 0 0,.slice none 0 0] 31)).alloc (.cells #[.slice none 0 0,.slice none 0 0] 31)) g A n c zs (.slice none 0 0) (.slice none 0 0) 0 [] [] 0 [] []:=by
 have hb:Below w.heap.size w ((w.alloc (.cells #[.slice none 0 0,.slice none 0 0] 31)).alloc (.cells #[.slice none 0 0,.slice none 0 0] 31)):=(bnw _ _).alloc (by simp) _;have r1:=(RowF.of_row (row_pair w (.slice none 0 0) (.slice none 0 0) 31));have r2:=(RowF.of_row (row_pair (w.alloc (.cells #[.slice none 0 0,.slice none 0 0] 31)) (.slice none 0 0) (.slice none 0 0) 31));simp only [World.size_alloc] at r2;exact ⟨r1.alloc _,r2,DN.nil _ _ _ _ _,DN.nil _ _ _ _ _,hg,hc.after hb,h.below (hb.mono (by omega)),hb.mono (by omega),fun i hi=>absurd hi (by omega),Nat.le_refl _⟩
end
theorem below_dr3 {B:Nat} {a w:World} (h:Below B a w):Below B a w.drew:=⟨h.os,h.tape,h.output,h.size,h.block⟩
def VPost (B base:Nat) (w:World) (e:Ending) (w':World):Prop :=
 ∃ (gR gL k cR cL:Nat) (csR csL:List Value) (L M:List (Nat × List Int)),e = .returned (.agg #[.slice (some ⟨gR,0,none⟩) k cR,.slice (some ⟨gL,0,none⟩) k cL])/\(1<=k/\k<=3)/\DN w' (base+1) 45 110 4 (.slice (some ⟨gR,0,none⟩) k cR) k csR L/\DN w' (base+1) 46 77 3 (.slice (some ⟨gL,0,none⟩) k cL) k csL M/\(∀ i,i<k->VGood L M i)/\Below B w w'
theorem l30Vault_any (g:Nat) (A:Option Addr) (n c:Nat) (zs:List Int) (w:World) (h:BytesAt w g A n zs) (hn:n<=1048576) (hc:CurAt w g A n c) (hg:g<w.heap.size) :
  Calls Tryzx.prog 35 #[.pointer (some ⟨g,0,none⟩)] w (VPost g w.heap.size w):=by
 have HS0:=q_ (DvSt.start hg hc h);clear h hc;go_enter Tryzx.func35,Tryz.ntmps35;go_wp2_with fail
 refine (l01Below_any g A n c zs 3 _ HS0.out.code hn HS0.out.cur (by omega) (by omega)).mono ?_;rintro e w1 ⟨x,rfl,x0,x1,hc1,ho1⟩;have HS1:=q_ (HS0.out.only ho1 hc1);clear hc1 ho1 HS0;obtain ⟨N,hN⟩:∃ N:Nat,1+x=(N:Int):=⟨(1+x).toNat,by omega⟩;have hN1:1<=N:=by omega
 have hN3:N<=3:=by omega
 have e1:IntKind.i64.wrap (1+x)=(N:Int):=by rw [iW (by omega)]; exact hN
 go_wp2;go_loopw [5] (fun v5 wr=>∃ (k:Nat) (vR vL:Value) (csR csL:List Value) (L M:List (Nat × List Int)),v5 = .int .i64 k/\k<=N/\Hid (DvSt w wr g A n c zs vR vL k csR L k csL M)) (fun v5 _=>N - (intOf v5).toNat)
 case atStart=>exact ⟨0,_,_,_,_,_,_,rfl,Nat.zero_le _,HS1⟩
 case round =>
  clear HS1 e1 hN x0 x1;obtain ⟨k,vR,vL,csR,csL,L,M,rfl,hk,HS⟩:=hrel;by_cases hlt:k<N
  ·have kn:(k:Int)<(N:Int):=by omega
   have ek:IntKind.i64.wrap ((k:Int)+1)=(k:Int)+1:=iW (by omega);have hgl:g<wr.heap.size:=by have:=HS.out.below.size; omega
   go_wp2_with fail
   refine (l06Arch_keep g A n c zs _ HS.out.code hn HS.out.cur hgl).mono ?_;rintro e w1 ⟨b,m,d,Z,rfl,hb,hmd,hr,hl,ho,hsm,hcc,hkp,hb1⟩;have ba:Below w1.heap.size w1 (w1.alloc (.cells #[.slice (some ⟨b,0,none⟩) m d] 45)):=bnw _ _;have HS2:=q_ ((HS.out.next hkp hcc hb1).after ba);have HVR:=q_ (show ∀ g',vR.ownBlock=some g'->g'<w1.heap.size from fun g' hg'=>by have:=HS.out.ribs.cells.blockLt g' hg'; have:=hb1.size; omega)
   have HVL:=q_ (show ∀ g',vL.ownBlock=some g'->g'<w1.heap.size from fun g' hg'=>by have:=HS.out.loads.cells.blockLt g' hg'; have:=hb1.size; omega)
   have HA2:Hid (ArIn w (w1.alloc (.cells #[.slice (some ⟨b,0,none⟩) m d] 45)) w1.heap.size b m d Z):=q_ (by
    have h1:=RowF.lt HS.out.box;have h2:=hb1.size;exact ⟨rowF_new1S _ _ _,hr.after ba,hmd,hl,ho,hsm,by omega,by omega⟩)
   clear hb hmd hr hl ho hsm hcc hkp hb1 ba HS;go_wp2_with fail
   refine (l01Once_any g A n c zs 2 _ HS2.out.code hn HS2.out.cur (by omega) (by omega)).mono ?_;rintro e W ⟨bb,rfl,hc3,ho3⟩;have HS9:=q_ (HS2.out.only ho3 hc3);have HA3:=q_ (HA2.out.only ho3 hg);clear hc3 ho3 HS2 HA2;cases bb;focus
    have HE:Hid (∃ b m d Z,ArIn w W w1.heap.size b m d Z):=q_ ⟨_,_,_,_,HA3.out⟩;clear HA3;go_upto_region 9 with fail
   rotate_left
   focus
    go_wp2_with fail
    refine (l01Below_any g A n c zs 4 _ HS9.out.code hn HS9.out.cur (by omega) (by omega)).mono ?_;rintro e w4 ⟨x,rfl,x0,x1,hc4,ho4⟩;have HS4:=q_ (HS9.out.only ho4 hc4);have HA4:=q_ (HA3.out.only ho4 hg);clear hc4 ho4 HS9 HA3;go_wp2_with fail
    refine (l06Shape_any x w4 x0 (by omega)).mono ?_;rintro e w5 ⟨b2,m2,Z2,rfl,hbg,hbr,hbl,hbo,hsm2,hb5⟩;have HS5:=q_ (HS4.out.after hb5);have HA5:=q_ (HA4.out.after hb5);have HS9:=q_ (HS5.out.setArch HA5.out HVR.out (.slice (some ⟨b2,0,none⟩) m2 m2));have HE:Hid (∃ b m d Z,ArIn w (w5.setCell ⟨w1.heap.size,0,none⟩ (.slice (some ⟨b2,0,none⟩) m2 m2)) w1.heap.size b m d Z):=q_ ⟨_,_,_,_,HA5.out.swap hbr ⟨Nat.le_refl _,by have:=(archB_out hbo).1; unfold maxLen; omega⟩ hbl hbo (smZ_mono hsm2 (by omega)) (by have:=RowF.lt HS4.out.box; omega) (by have:=RowF.lt HA4.out.box; omega)⟩
    have xf:=HA5.out.box.frozen 0;have xl:=RowF.lt HA5.out.box;have xb:w5.cell? ⟨w1.heap.size,0,none⟩=some (.slice (some ⟨b,0,none⟩) m d):=HA5.out.box.cell (i:=0) (by omega);clear hbg hbr hbl hbo hsm2 hb5 HS4 HA4 HS5 HA5 x0 x1;go_upto_region 9 with fail
    clear xf xl xb;generalize w5.setCell ⟨w1.heap.size,0,none⟩ (.slice (some ⟨b2,0,none⟩) m2 m2)=W at *
   all_goals
    obtain ⟨b9,m9,d9,Z9,HA9x⟩:=HE.out;have HA9:=q_ HA9x;clear HE HA9x;have x0:W.cell? ⟨w1.heap.size,0,none⟩=some (.slice (some ⟨b9,0,none⟩) m9 d9):=HA9.out.box.cell (i:=0) (by omega);have v0:W.cell? ⟨w.heap.size+1,0,none⟩=some vR:=HS9.out.box.cell (i:=0) (by omega);go_wp2_with (at_builtin; refine wpList_appCX rfl (.tmp 24) (.tmp 26) 28 rfl (w.heap.size+2) 45 24 (.agg #[.slice none 0 0]) Tryzx.underlying28 infoArch rfl (by decide) vR k csR rfl (by exact HS9.out.ribs.cells.alloc _) W.heap.size 1 (.slice (some ⟨b9,0,none⟩) m9 d9) rfl rfl (by exact cell_new1 _ _ _) (by omega) (by have:=RowF.lt HS9.out.box; simp; omega) ?_; intro g10 cap10 w10 hown10 har10; have b10:=RowF.below (HS9.out.box.alloc (.cells #[.slice (some ⟨b9,0,none⟩) m9 d9] 45)) har10.below (by omega); have d0:w10.cell? ⟨w.heap.size+1,0,none⟩=some vR:=b10.cell (i:=0) (by omega); have f0:=b10.frozen 0; have hb10:=RowF.lt b10);have HS11:=q_ (HS9.out.pushR HA9.out hown10 har10);have HA11:=q_ (HA9.out.pushR HVR.out (fun g' hg'=>HS9.out.ribs.cells.typeAt g' hg') har10);have HRL:Hid (rowN (L ++ [(m9,Z9)]) k=m9/\rowZ (L ++ [(m9,Z9)]) k=Z9):=q_ (by have e:=row_app_eq (L:=L) (x:=(m9,Z9)); rw [HS9.out.ribs.len] at e; exact e);clear x0 v0 b10 d0 f0 hb10 hown10 har10 HS9 HA9;generalize w10.setCell ⟨w.heap.size+1,0,none⟩ (.slice (some ⟨g10,0,none⟩) (k+1) cap10)=W11 at *
    generalize L ++ [(m9,Z9)]=L9 at *
    generalize csR ++ [Value.slice (some ⟨b9,0,none⟩) m9 d9]=cs9 at *
    have HS12:=q_ (HS11.out.after (w':=W11.drew) (below_dr3 (Below.refl _ _)));have HA12:=q_ (HA11.out.after (w':=W11.drew) (below_dr3 (Below.refl _ _)));have hm8:=(archB_out HA11.out.ok).1.2;have hgb:g<b9:=by have:=HA11.out.far; omega
    have hbl:b9<W11.drew.heap.size:=RowF.lt HA12.out.row;have x12:W11.drew.cell? ⟨w1.heap.size,0,none⟩=some (.slice (some ⟨b9,0,none⟩) m9 d9):=HA12.out.box.cell (i:=0) (by omega);have v12:W11.drew.cell? ⟨w.heap.size+1,1,none⟩=some vL:=HS12.out.box.cell (i:=1) (by omega);clear HS11 HA11;go_wp2;refine wp_region_held_drew (S:=fun w'=>w'.cell? ⟨w1.heap.size,0,none⟩=some (.slice (some ⟨b9,0,none⟩) m9 d9)) (by kernel_rfl) (by exact x12) (fun hHeld => ?_);refine tk 0 29 rfl rfl ?_;try simp only [Act.put,ly3]
    refine tk 2 31 rfl rfl ?_;try simp only [Act.put,ly3]
    refine tk 3 32 rfl rfl ?_;try simp only [Act.put,ly3]
    refine rd2 1 4 rfl rfl (fun K hK=>?_) fun K hK=>?_;rotate_left
    go_simp
    (with_reducible refine (l07Loads_any g A n c zs b9 m9 d9 Z9 _ HS12.out.code hn HS12.out.cur hgb hbl HA12.out.row hm8 HA12.out.sm).mono ?_)
    rintro e w13 ⟨gl,q3,cl,Ld,rfl,hq3,ho13,hv13,hr13,hc13,hk13,hb13⟩;have HS13:=q_ (HS12.out.next hk13 hc13 hb13);have HA13:=q_ (HA12.out.stay hk13 HS12.out.far);have HOL:Hid (OwnR (w13.alloc (.cells #[.slice (some ⟨gl,0,none⟩) q3 cl] 46)) (w.heap.size+2) 77 3 (.slice (some ⟨gl,0,none⟩) q3 cl) q3 Ld):=q_ ((ho13.weaken (by have:=RowF.lt HS12.out.box; omega)).alloc _)
    have HVG:Hid (archB (rowZ L9 k) (rowN L9 k)=true/\q3<=4/\allTo (loadAt Ld (rowN L9 k)) q3):=q_ (by rw [HRL.out.1,HRL.out.2]; exact ⟨HA12.out.ok,hq3,hv13⟩);have v13:w13.cell? ⟨w.heap.size+1,1,none⟩=some vL:=HS13.out.box.cell (i:=1) (by omega);have x13:w13.cell? ⟨w1.heap.size,0,none⟩=some (.slice (some ⟨b9,0,none⟩) m9 d9):=HA13.out.box.cell (i:=0) (by omega);clear hq3 ho13 hv13 hr13 hc13 hk13 hb13;refine hK.out _ _ (by exact x13) (fun hHeld => ?_);clear hK K;try simp only [Act.put,ly3]
    refine rd2 1 5 rfl rfl (fun K hK=>?_) fun K hK=>?_;rotate_left
    go_simp
    have v13:(w13.alloc (.cells #[.slice (some ⟨gl,0,none⟩) q3 cl] 46)).cell? ⟨w.heap.size+1,1,none⟩=some vL:=(HS13.out.box.alloc _).cell (i:=1) (by omega);have x13a:(w13.alloc (.cells #[.slice (some ⟨gl,0,none⟩) q3 cl] 46)).cell? ⟨w1.heap.size,0,none⟩=some (.slice (some ⟨b9,0,none⟩) m9 d9):=(HA13.out.box.alloc _).cell (i:=0) (by omega);refine hK.out _ _ (by exact x13a) (fun hHeld => ?_);clear hK K;try simp only [Act.put,ly3]
    refine rd1 1 rfl fun K hK=>?_;go_simp
    refine hK.out _ _ (by exact x13a) (fun hHeld => ?_);clear hK K;try simp only [Act.put,ly3]
    rotate_left
    go_simp
    refine hK.out _ _ (by exact x12) (fun hHeld => ?_);clear hK K;try simp only [Act.put,ly3]
    refine rd1 4 rfl fun K hK=>?_;go_simp
    (with_reducible refine (l07Loads_any g A n c zs b9 m9 d9 Z9 _ HS12.out.code hn HS12.out.cur hgb hbl HA12.out.row hm8 HA12.out.sm).mono ?_)
    rintro e w13 ⟨gl,q3,cl,Ld,rfl,hq3,ho13,hv13,hr13,hc13,hk13,hb13⟩;have HS13:=q_ (HS12.out.next hk13 hc13 hb13);have HA13:=q_ (HA12.out.stay hk13 HS12.out.far);have HOL:Hid (OwnR (w13.alloc (.cells #[.slice (some ⟨gl,0,none⟩) q3 cl] 46)) (w.heap.size+2) 77 3 (.slice (some ⟨gl,0,none⟩) q3 cl) q3 Ld):=q_ ((ho13.weaken (by have:=RowF.lt HS12.out.box; omega)).alloc _)
    have HVG:Hid (archB (rowZ L9 k) (rowN L9 k)=true/\q3<=4/\allTo (loadAt Ld (rowN L9 k)) q3):=q_ (by rw [HRL.out.1,HRL.out.2]; exact ⟨HA12.out.ok,hq3,hv13⟩);have v13:w13.cell? ⟨w.heap.size+1,1,none⟩=some vL:=HS13.out.box.cell (i:=1) (by omega);have x13:w13.cell? ⟨w1.heap.size,0,none⟩=some (.slice (some ⟨b9,0,none⟩) m9 d9):=HA13.out.box.cell (i:=0) (by omega);clear hq3 ho13 hv13 hr13 hc13 hk13 hb13;refine hK.out _ _ (by exact x13) (fun hHeld => ?_);clear hK K;try simp only [Act.put,ly3]
    refine rd1 5 rfl fun K hK=>?_;go_simp
    have v13:(w13.alloc (.cells #[.slice (some ⟨gl,0,none⟩) q3 cl] 46)).cell? ⟨w.heap.size+1,1,none⟩=some vL:=(HS13.out.box.alloc _).cell (i:=1) (by omega);have x13a:(w13.alloc (.cells #[.slice (some ⟨gl,0,none⟩) q3 cl] 46)).cell? ⟨w1.heap.size,0,none⟩=some (.slice (some ⟨b9,0,none⟩) m9 d9):=(HA13.out.box.alloc _).cell (i:=0) (by omega);refine hK.out _ _ (by exact x13a) (fun hHeld => ?_);clear hK K;try simp only [Act.put,ly3]
    rotate_left
    go_simp
    refine hK.out _ _ (by exact x13) (fun hHeld => ?_);clear hK K;try simp only [Act.put,ly3]
    refine rd1 5 rfl fun K hK=>?_;go_simp
    have v13:(w13.alloc (.cells #[.slice (some ⟨gl,0,none⟩) q3 cl] 46)).cell? ⟨w.heap.size+1,1,none⟩=some vL:=(HS13.out.box.alloc _).cell (i:=1) (by omega);have x13a:(w13.alloc (.cells #[.slice (some ⟨gl,0,none⟩) q3 cl] 46)).cell? ⟨w1.heap.size,0,none⟩=some (.slice (some ⟨b9,0,none⟩) m9 d9):=(HA13.out.box.alloc _).cell (i:=0) (by omega);refine hK.out _ _ (by exact x13a) (fun hHeld => ?_);clear hK K;try simp only [Act.put,ly3]
    all_goals
     refine rd1 6 rfl fun K hK=>?_;refine step_appCX rfl (.tmp 30) (.tmp 34) 29 rfl (w.heap.size+2) 46 24 (.slice none 0 0) Tryzx.underlying29 infoLLoadS rfl (by decide) vL k csL rfl (by exact HS13.out.loads.cells.alloc _) w13.heap.size 1 (.slice (some ⟨gl,0,none⟩) q3 cl) rfl rfl (by exact cell_new1 _ _ _) (by omega) (by have:=RowF.lt HS13.out.box; simp; omega) ?_
     intro g2 cap2 w14 hown14 har14;have HN14:=q_ (HS13.out.pushL HOL.out hown14 har14 HVG.out);have x14:w14.cell? ⟨w1.heap.size,0,none⟩=some (.slice (some ⟨b9,0,none⟩) m9 d9):=(har14.cellStay (p:=⟨w1.heap.size,0,none⟩) (by have:=RowF.lt HA13.out.box; simp; omega) (fun g' hg'=>by have:=HVL.out g' hg'; simp; omega)).trans x13a
     have b14:=RowF.below (HS13.out.box.alloc (.cells #[.slice (some ⟨gl,0,none⟩) q3 cl] 46)) har14.below (by omega);have d0:w14.cell? ⟨w.heap.size+1,1,none⟩=some vL:=b14.cell (i:=1) (by omega);have f0:=b14.frozen 1;have hb14:=RowF.lt b14;refine hK.out _ _ (by exact x14) (fun hHeld => ?_);clear hK K;try simp only [Act.put,ly3]
     refine tk 7 36 rfl rfl ?_;try simp only [Act.put,ly3]
     refine rd1 8 rfl fun K hK=>?_;go_simp
     refine hK.out _ _ (by exact (World.cell?_setCell_far _ _ _ _ (by have:=HA13.out.far; simp; omega)).trans x14) (fun hHeld => ?_)
     clear hK K;try simp only [Act.put,ly3]
     refine wpAnyH_done (by kernel_rfl) ?_ _;clear hHeld;go_wp2;go_roundw
     case rel=>exact ⟨k+1,_,_,_,_,_,_,by go_num,by omega,HN14⟩
     case measure=>simp [intOf]; omega
  ·obtain rfl:k=N:=by omega
   have kn:¬ (k:Int)<(k:Int):=by omega
   have r0:wr.cell? ⟨w.heap.size,0,none⟩=some (.slice none 0 0):=HS.out.res.cell (i:=0) (by omega);have r1:wr.cell? ⟨w.heap.size,1,none⟩=some (.slice none 0 0):=HS.out.res.cell (i:=1) (by omega);have f0:=HS.out.res.frozen 0;have f1:=HS.out.res.frozen 1;have hs:=RowF.lt HS.out.res;obtain ⟨gR,cR,rfl⟩:=HS.out.ribs.ex (by omega);obtain ⟨gL,cL,rfl⟩:=HS.out.loads.ex (by omega);have o0:wr.cell? ⟨w.heap.size+1,0,none⟩=some (.slice (some ⟨gR,0,none⟩) k cR):=HS.out.box.cell (i:=0) (by omega);have o1:wr.cell? ⟨w.heap.size+1,1,none⟩=some (.slice (some ⟨gL,0,none⟩) k cL):=HS.out.box.cell (i:=1) (by omega);go_wp2;refine bodyPost_ret (v := .agg #[.slice (some ⟨gR,0,none⟩) k cR,.slice (some ⟨gL,0,none⟩) k cL]) (by simp [results,Tryz.results35,go_sem, *]) rfl ?_;exact ⟨gR,gL,k,cR,cL,csR,csL,L,M,rfl,⟨hN1,hN3⟩,(((HS.out.ribs.setLow (by simp) _).setLow (by simp) _).weak (by omega)),(((HS.out.loads.setLow (by simp) _).setLow (by simp) _).weak (by omega)),HS.out.good,(HS.out.below.setCell (by simp; omega) _).setCell (by simp; omega) _⟩
end X
end Go.Proofs.YtjcgklifabcfkaaGreat
