/-
  Texts that the law stands on, part 1.
-/
import Derived.Test.YtpblihmhpalkfaaGreatJ1
import Derived.Test.YtpblihmhpalkfaaGreatJ10
import Derived.Test.YtpblihmhpalkfaaGreatJ11
import Derived.Test.YtpblihmhpalkfaaGreatJ15
import Derived.Test.YtpblihmhpalkfaaGreatJ16
import Derived.Test.YtpblihmhpalkfaaGreatJ17
import Derived.Test.YtpblihmhpalkfaaGreatJ20
import Derived.Test.YtpblihmhpalkfaaGreatJ9
import Derived.Deep.Slices
import Derived.Deep.Draws
import Derived.Deep.RegionHeld3
import Derived.KernelRfl
import Derived.Deep.RegionLaw
import Derived.Test.YtpblihmhpalkfaaGreatProg
import Derived.IntWalk
import Derived.Deep.QuietTactic
import Derived.BigQuiet
import Derived.BigRegion
set_option maxRecDepth 100000
set_option linter.unusedVariables false
set_option linter.unusedSimpArgs false
namespace Go.Proofs.YtpblihmhpalkfaaGreat
section
open Go.ChangeShapes Go.WideShapes Go.ChangeAt Go.RowKit
section
variable {w w' : World} {B B' K n : Nat} {A : Option Addr} {zs : List Int}
theorem recsAt_row {g:Nat} {t:TypeId} {f:Nat→Value} (h:w.rowIs g t (n*K) f) (hz:zs.length=n*K) (hf:∀ k,k<n*K→f k = .int .i64 (nth zs k)):RecsAt w w.heap.size K (some ⟨g,0,none⟩) n zs :=
 ⟨hz,fun _=>⟨g,0,rfl,h.lt,fun k hk=>by rw [Nat.zero_add,h.cell hk,hf k hk]⟩⟩
end
end
section
section
variable {P : Program} {ops : Array Oper} {Q : Exit → Act → World → Prop} {md : Region.Mode} {S : World → Prop}
theorem skip_heldS {i d:Nat} {oi:Oper} {fuel:Nat} {listed:Array Bool} {a:Act} {w:World} (hi:ops[i]?=some oi) (hd:oi.dst=some d)
  (h:wpAnyH P md ops Q S fuel (listed.setIfInBounds i true) (a.put (some d) undef) w)
  (hs:Region.noSelect ops=true:=by kernel_rfl) (hf:Region.free md ops listed i=true:=by kernel_rfl) (hr:(Region.ready md ops listed).contains i=true:=by kernel_rfl) (hQ:∀ c a w,Q (.panic c) (a.put (some d) undef) w→Q (.panic c) a w:=by exact fun _ _ _ h=>h)
  (hw:Region.wanted oi (yielded ops a.tmps)=false:=by kernel_rfl) (hS:S w:=by assumption):wpAnyH P md ops Q S (fuel+1) listed a w :=
 wpAnyH_take (v:=undef) hi hs hf hr (by rw [hd]; exact hQ) (Or.inr ⟨hw,rfl⟩) hS (by rw [hd]; exact h)
end
end
section
open Go.RowKit
section
variable {w w' : World} {base : Nat} {E : TypeId} {K n : Nat} {v : Value} {xs : List Int}
theorem OwnR.drewN (h:OwnR w base E K v n xs) (k:Nat):OwnR (w.drewN k) base E K v n xs:=h
end
theorem OwnR.typeOf {w:World} {base:Nat} {E:TypeId} {K n:Nat} {v:Value} {xs:List Int} (h:OwnR w base E K v n xs) (g:Nat) (hg:v.ownBlock=some g) {T:TypeId} {m:Nat} {f:Nat→Value} (hr:RowF w g T m f):T=E:=by
 rcases h.form with ⟨rfl,_⟩ | ⟨g',cap,rfl,_,_,hr'⟩
 ·simp [Value.ownBlock] at hg
 ·simp [Value.ownBlock] at hg
  subst hg;obtain ⟨c,hb,_⟩:=hr;obtain ⟨c',hb',_⟩:=hr';rw [hb] at hb';simp at hb';exact hb'.2
theorem OwnR.blockLt {w:World} {base:Nat} {E:TypeId} {K n:Nat} {v:Value} {xs:List Int} (h:OwnR w base E K v n xs):∀ k,v.ownBlock=some k→k<w.heap.size:=fun k hk=>(World.ownsRow.lt h.1 k hk).2
theorem OwnR.other {w w':World} {base:Nat} {E:TypeId} {K n:Nat} {u:Value} {xs:List Int} {row:Option Nat} (h:OwnR w base E K u n xs) (hg:w.grownBy w' row) (hne:∀ k,u.ownBlock=some k→row ≠ some k):OwnR w' base E K u n xs:=by
 refine ⟨⟨h.1.1,?_⟩,h.2⟩;rcases h.1.2 with h2 | ⟨g,cap,cur,h1,h2,h3,hr⟩
 ·exact .inl h2
 ·obtain ⟨_,_,_,_,hgg⟩:=hg
  refine .inr ⟨g,cap,cur,h1,h2,(hgg g (Array.getElem?_eq_some_iff.1 h3).1 (fun e=>hne g (by rw [h1]; rfl) e.symm)).trans h3,hr⟩
theorem wpList_appR2 {P:Program} (w:World) {ops:Array Oper} {rest:List Oper} {o:Oper} {a:Act} {Q:Exit→Act→World→Prop} (hgd:o.guard=none) (s x:Operand) (t:TypeId)
  (ho:o.op = .call { callee := .builtin .append,args := #[s,x],argTypes := #[t,t] })
  (base:Nat) (E:TypeId) (K bytes:Nat) (zc:Array Value) (ht:P.underlying t=some (.slice E)) (hinfo:(P.info? E).map (fun i=>(i.zero,i.size,i.bytes))=some (some (.agg zc),K,bytes)) (hzc:zc.size=K) (hK:0<K) (hby:bytes≤1024)
  (v:Value) (n:Nat) (xs:List Int) (hs:a.eval s=v) (hown:OwnR w base E K v n xs) (g m c:Nat) (ys:List Int) (hx:a.eval x = .slice (some ⟨g,0,none⟩) m c) (hy:ys.length=m*K)
  (hg:∀ i,i<m*K→w.cell? ⟨g,i,none⟩=some (.int .i64 (nth ys i))) (hn:n+m≤1048576) (B:Nat) (w0:World) (hb:Below B w0 w) (hB:B≤base) (hbase:base≤w.heap.size) (xs':List Int) (hxs:xs ++ ys=xs')
  (u:Value) (nu:Nat) (us:List Int) (hu:OwnR w base E K u nu us) (hap:ApartV v u)
  (h:∀ g' cap' w',OwnR w' base E K (.slice (some ⟨g',0,none⟩) (n+m) cap') (n+m) xs'→Below B w0 w'→OwnR w' base E K u nu us→ApartV (.slice (some ⟨g',0,none⟩) (n+m) cap') u→(∀ g2 T m2 f,T ≠ E→RowF w g2 T m2 f→RowF w' g2 T m2 f)→wpList P ops Q rest (a.put o.dst (.slice (some ⟨g',0,none⟩) (n+m) cap')) w') (hm:1≤m):wpList P ops Q (o :: rest) a w:=by
 subst hxs;obtain ⟨i0,hi0,hz0,hz1,hz2⟩:=info_parts hinfo;have hbb:(n+m)*bytes≤1048576*1024:=Nat.mul_le_mul hn hby;have hnews:∀ j v,(ys.map (Value.int .i64))[j]?=some v→w.cell? ((⟨g,0,none⟩:Addr).add j)=some v:=by
  intro j u hj;have hjl:j<ys.length:=by
   have:=(List.getElem?_eq_some_iff.1 hj).1;simpa using this
  rw [List.getElem?_map,List.getElem?_eq_getElem hjl] at hj;simp at hj;subst hj;rw [Go.WideShapes.add_plain,Nat.zero_add,hg j (by rw [← hy]; exact hjl),nth_get ys j hjl]
 have hone:∀ v ∈ ys.map (Value.int .i64),v.oneCell'=true:=by
  intro u hu;obtain ⟨z,_,rfl⟩:=List.mem_map.1 hu;rfl
 have fin:∀ g' cap' w',w'.ownsRow base E K (.slice (some ⟨g',0,none⟩) (n+m) cap') (n+m) (xs.map (Value.int .i64) ++ ys.map (Value.int .i64))→w.grownBy w' v.ownBlock→(v.ownBlock=some g' ∨ w.heap.size≤g')→wpList P ops Q rest (a.put o.dst (.slice (some ⟨g',0,none⟩) (n+m) cap')) w':=by
  intro g' cap' w' ho' hgr hwhere;refine h g' cap' w' ⟨by rw [List.map_append]; exact ho',by rw [List.length_append,hown.2,hy,Nat.add_mul]⟩ (hb.grown hgr (by omega) (fun k hk=>by have:=hown.ownLt k hk; omega)) (hu.other hgr (fun k hk e=>hap k e hk)) ?_ (fun g2 T m2 f hT hr=>hr.of_block (grown_block hgr g2 hr.lt (fun e=>hT (hown.typeOf g2 e.symm hr))))
  intro k hk hk2;simp [Value.ownBlock] at hk;subst hk;rcases hwhere with e | e
  ·exact hap _ e hk2
  ·have:=hu.blockLt _ hk2
   omega
 by_cases hfit:∃ g0 cap0,v = .slice (some ⟨g0,0,none⟩) n cap0∧n+m≤cap0
 ·obtain ⟨g0,cap0,rfl,hfit⟩:=hfit
  refine wpList_append_fits w hgd s x t ho base E i0 K ht hi0 hz1 g0 n cap0 _ hs hown.1 ⟨g,0,none⟩ m c _ hx (by simpa using hy) hnews hone hfit ?_;intro w' ho' hgr;exact fin g0 cap0 w' ho' hgr (.inl rfl)
 ·obtain ⟨A0,cap0,rfl,hnc⟩:=hown.slice
  have hA:A0=none→n=0∧cap0=0:=by
   intro e;subst e;rcases hown.form with ⟨e,e2,_⟩ | ⟨g0,c0,e,_⟩
   ·simp at e
    exact ⟨e2,e.2⟩
   ·simp at e
  have hrec:=hown.recs;have hfull:cap0<n+m:=by
   rcases hown.form with ⟨e,e2,_⟩ | ⟨g0,c0,e,_⟩
   ·simp at e
    omega
   ·simp at e
    obtain ⟨rfl,rfl⟩:=e;have:¬ n+m≤cap0:=fun hh=>hfit ⟨g0,cap0,rfl,hh⟩
    omega
  refine wpList_append_grows w hgd s x t ho E i0 (.agg zc) K bytes ht hi0 hz0 hz1 hz2 (by simpa [Value.cells] using hzc) hK A0 n cap0 (xs.map (Value.int .i64)) hs hA (by simpa using hown.2) ?_ ⟨g,0,none⟩ m c _ hx (by simpa using hy) hnews hone hfull (by unfold maxLen; omega) (by omega) ?_
  ·intro b hb' j v hj
   subst hb';have hjl:j<xs.length:=by
    have:=(List.getElem?_eq_some_iff.1 hj).1;simpa using this
   rw [List.getElem?_map,List.getElem?_eq_getElem hjl] at hj;simp at hj;subst hj;have hn0:0<n:=by
    rcases Nat.eq_zero_or_pos n with e | e
    ·rw [hown.2,e,Nat.zero_mul] at hjl; omega
    ·exact e
   obtain ⟨b',off,e,_,hcc⟩:=hrec.2 hn0;simp at e;subst e;rw [Go.WideShapes.add_plain,hcc j (by rw [← hown.2]; exact hjl),nth_get xs j hjl]
  ·intro v' w' ho' hgr
   have hgr':w.grownBy w' (Value.slice A0 n cap0).ownBlock:=by
    obtain ⟨a1,a2,a3,a4,a5⟩:=hgr;exact ⟨a1,a2,a3,a4,fun k hk _=>a5 k hk (by simp)⟩
   rcases ho'.2 with ⟨_,h2⟩ | ⟨g',cap',cur,rfl,hg',hr⟩
   ·omega
   ·refine fin g' cap' w' ⟨ho'.1,.inr ⟨g',cap',cur,rfl,by omega,hr⟩⟩ hgr' (.inr hg')
end
section
open Go.RowKit
theorem step_appR {P:Program} {ops:Array Oper} {o:Oper} {a:Act} {w:World} {K:Act→World→Prop} {Q:Exit→Act→World→Prop} {F:Prop} (hgd:o.guard=none) (s x:Operand) (t:TypeId)
  (ho:o.op = .call { callee := .builtin .append,args := #[s,x],argTypes := #[t,t] })
  (base:Nat) (E:TypeId) (Kr bytes:Nat) (zc:Array Value) (ht:P.underlying t=some (.slice E)) (hinfo:(P.info? E).map (fun i=>(i.zero,i.size,i.bytes))=some (some (.agg zc),Kr,bytes)) (hzc:zc.size=Kr) (hK:0<Kr) (hby:bytes≤1024)
  (v:Value) (n:Nat) (xs:List Int) (hs:a.eval s=v) (hown:OwnR w base E Kr v n xs) (g m c:Nat) (ys:List Int) (hx:a.eval x = .slice (some ⟨g,0,none⟩) m c) (hy:ys.length=m*Kr)
  (hg:∀ i,i<m*Kr→w.cell? ⟨g,i,none⟩=some (.int .i64 (nth ys i))) (hn:n+m≤1048576) (B:Nat) (w0:World) (hb:Below B w0 w) (hB:B≤base) (hbase:base≤w.heap.size) (xs':List Int) (hxs:xs ++ ys=xs') (hm:1≤m)
  (h:∀ g' cap' w',OwnR w' base E Kr (.slice (some ⟨g',0,none⟩) (n+m) cap') (n+m) xs'→Below B w0 w'→K (a.put o.dst (.slice (some ⟨g',0,none⟩) (n+m) cap')) w'):if Region.wanted o (yielded ops a.tmps)=true then Oper.wp P o a w K Q else F:=by
 have hw:Region.wanted o (yielded ops a.tmps)=true:=by simp [Region.wanted,hgd]
 rw [if_pos hw];subst hxs;obtain ⟨i0,hi0,hz0,hz1,hz2⟩:=info_parts hinfo;have hbb:(n+m)*bytes≤1048576*1024:=Nat.mul_le_mul hn hby;refine wp_append_own (P:=P) w s x t ho base E i0 (.agg zc) Kr bytes ht hi0 hz0 hz1 hz2 (by simpa [Value.cells] using hzc) hK v n _ hs hown.1 ⟨g,0,none⟩ m c (ys.map (Value.int .i64)) hx (by simpa using hy) ?_ ?_ (by unfold maxLen; omega) (by omega) hbase ?_
 ·intro j u hj
  have hjl:j<ys.length:=by
   have:=(List.getElem?_eq_some_iff.1 hj).1;simpa using this
  rw [List.getElem?_map,List.getElem?_eq_getElem hjl] at hj;simp at hj;subst hj;rw [Go.WideShapes.add_plain,Nat.zero_add,hg j (by rw [← hy]; exact hjl),nth_get ys j hjl]
 ·intro u hu
  obtain ⟨z,_,rfl⟩:=List.mem_map.1 hu;rfl
 ·intro v' w' hown' hgr _
  have h':OwnR w' base E Kr v' (n+m) (xs ++ ys):=⟨by rw [List.map_append]; exact hown',by rw [List.length_append,hown.2,hy,Nat.add_mul]⟩;rcases h'.form with ⟨_,h2,_⟩ | ⟨g',cap',rfl,_⟩
  ·omega
  ·exact h g' cap' w' h' (hb.grown hgr (by omega) (fun k hk=>by have:=hown.ownLt k hk; omega))
theorem step_appRT {P:Program} {ops:Array Oper} {o:Oper} {a:Act} {w:World} {K:Act→World→Prop} {Q:Exit→Act→World→Prop} {F:Prop} (hgd:o.guard=none) (s x:Operand) (t:TypeId)
  (ho:o.op = .call { callee := .builtin .append,args := #[s,x],argTypes := #[t,t] })
  (base:Nat) (E:TypeId) (Kr bytes:Nat) (zc:Array Value) (ht:P.underlying t=some (.slice E)) (hinfo:(P.info? E).map (fun i=>(i.zero,i.size,i.bytes))=some (some (.agg zc),Kr,bytes)) (hzc:zc.size=Kr) (hK:0<Kr) (hby:bytes≤1024)
  (v:Value) (n:Nat) (xs:List Int) (hs:a.eval s=v) (hown:OwnR w base E Kr v n xs) (g m c:Nat) (ys:List Int) (hx:a.eval x = .slice (some ⟨g,0,none⟩) m c) (hy:ys.length=m*Kr)
  (hg:∀ i,i<m*Kr→w.cell? ⟨g,i,none⟩=some (.int .i64 (nth ys i))) (hn:n+m≤1048576) (B:Nat) (w0:World) (hb:Below B w0 w) (hB:B≤base) (hbase:base≤w.heap.size) (xs':List Int) (hxs:xs ++ ys=xs') (hm:1≤m)
  (h:∀ g' cap' w',OwnR w' base E Kr (.slice (some ⟨g',0,none⟩) (n+m) cap') (n+m) xs'→Below B w0 w'→(∀ g2 T m2 f,T ≠ E→RowF w g2 T m2 f→RowF w' g2 T m2 f)→K (a.put o.dst (.slice (some ⟨g',0,none⟩) (n+m) cap')) w'):if Region.wanted o (yielded ops a.tmps)=true then Oper.wp P o a w K Q else F:=by
 have hw:Region.wanted o (yielded ops a.tmps)=true:=by simp [Region.wanted,hgd]
 rw [if_pos hw];subst hxs;obtain ⟨i0,hi0,hz0,hz1,hz2⟩:=info_parts hinfo;have hbb:(n+m)*bytes≤1048576*1024:=Nat.mul_le_mul hn hby;refine wp_append_own (P:=P) w s x t ho base E i0 (.agg zc) Kr bytes ht hi0 hz0 hz1 hz2 (by simpa [Value.cells] using hzc) hK v n _ hs hown.1 ⟨g,0,none⟩ m c (ys.map (Value.int .i64)) hx (by simpa using hy) ?_ ?_ (by unfold maxLen; omega) (by omega) hbase ?_
 ·intro j u hj
  have hjl:j<ys.length:=by
   have:=(List.getElem?_eq_some_iff.1 hj).1;simpa using this
  rw [List.getElem?_map,List.getElem?_eq_getElem hjl] at hj;simp at hj;subst hj;rw [Go.WideShapes.add_plain,Nat.zero_add,hg j (by rw [← hy]; exact hjl),nth_get ys j hjl]
 ·intro u hu
  obtain ⟨z,_,rfl⟩:=List.mem_map.1 hu;rfl
 ·intro v' w' hown' hgr _
  have h':OwnR w' base E Kr v' (n+m) (xs ++ ys):=⟨by rw [List.map_append]; exact hown',by rw [List.length_append,hown.2,hy,Nat.add_mul]⟩;rcases h'.form with ⟨_,h2,_⟩ | ⟨g',cap',rfl,_⟩
  ·omega
  ·exact h g' cap' w' h' (hb.grown hgr (by omega) (fun k hk=>by have:=hown.ownLt k hk; omega)) (fun g2 T m2 f hT hr=>hr.of_block (grown_block hgr g2 hr.lt (fun e=>hT (hown.typeOf g2 e.symm hr))))
end
end Go.Proofs.YtpblihmhpalkfaaGreat
section
namespace Go.Proofs.Tryzx
theorem func3:prog.funcs[3]?=some Tryz.f3:=by kernel_rfl
theorem func8:prog.funcs[8]?=some Tryz.f8:=by kernel_rfl
theorem func9:prog.funcs[9]?=some Tryz.f9:=by kernel_rfl
theorem func10:prog.funcs[10]?=some Tryz.f10:=by kernel_rfl
theorem func11:prog.funcs[11]?=some Tryz.f11:=by kernel_rfl
theorem func12:prog.funcs[12]?=some Tryz.f12:=by kernel_rfl
theorem func13:prog.funcs[13]?=some Tryz.f13:=by kernel_rfl
theorem func14:prog.funcs[14]?=some Tryz.f14:=by kernel_rfl
theorem func15:prog.funcs[15]?=some Tryz.f15:=by kernel_rfl
theorem func16:prog.funcs[16]?=some Tryz.f16:=by kernel_rfl
theorem func17:prog.funcs[17]?=some Tryz.f17:=by kernel_rfl
theorem func30:prog.funcs[30]?=some Tryz.f30:=by kernel_rfl
theorem func35:prog.funcs[35]?=some Tryz.f35:=by kernel_rfl
theorem func42:prog.funcs[42]?=some Tryz.f42:=by kernel_rfl
theorem func44:prog.funcs[44]?=some Tryz.f44:=by kernel_rfl
theorem func45:prog.funcs[45]?=some Tryz.f45:=by kernel_rfl
theorem func46:prog.funcs[46]?=some Tryz.f46:=by kernel_rfl
theorem func48:prog.funcs[48]?=some Tryz.f48:=by kernel_rfl
theorem func50:prog.funcs[50]?=some Tryz.f50:=by kernel_rfl
theorem func51:prog.funcs[51]?=some Tryz.f51:=by kernel_rfl
theorem func52:prog.funcs[52]?=some Tryz.f52:=by kernel_rfl
theorem func53:prog.funcs[53]?=some Tryz.f53:=by kernel_rfl
theorem func54:prog.funcs[54]?=some Tryz.f54:=by kernel_rfl
theorem func55:prog.funcs[55]?=some Tryz.f55:=by kernel_rfl
theorem func56:prog.funcs[56]?=some Tryz.f56:=by kernel_rfl
theorem func57:prog.funcs[57]?=some Tryz.f57:=by kernel_rfl
theorem func74:prog.funcs[74]?=some Tryz.f74:=by kernel_rfl
theorem func80:prog.funcs[80]?=some Tryz.f80:=by kernel_rfl
theorem func89:prog.funcs[89]?=some Tryz.f89:=by kernel_rfl
theorem func93:prog.funcs[93]?=some Tryz.f93:=by kernel_rfl
theorem func94:prog.funcs[94]?=some Tryz.f94:=by kernel_rfl
theorem func112:prog.funcs[112]?=some Tryz.f112:=by kernel_rfl
theorem func113:prog.funcs[113]?=some Tryz.f113:=by kernel_rfl
theorem func119:prog.funcs[119]?=some Tryz.f119:=by kernel_rfl
theorem func145:prog.funcs[145]?=some Tryz.f145:=by kernel_rfl
@[simp] theorem call3 (args w):Sem.run prog (callFunc 3 args) w = .ok (.enter 3 args) w:=call_x 3 args w func3
@[simp] theorem call8 (args w):Sem.run prog (callFunc 8 args) w = .ok (.enter 8 args) w:=call_x 8 args w func8
@[simp] theorem call9 (args w):Sem.run prog (callFunc 9 args) w = .ok (.enter 9 args) w:=call_x 9 args w func9
@[simp] theorem call10 (args w):Sem.run prog (callFunc 10 args) w = .ok (.enter 10 args) w:=call_x 10 args w func10
@[simp] theorem call11 (args w):Sem.run prog (callFunc 11 args) w = .ok (.enter 11 args) w:=call_x 11 args w func11
@[simp] theorem call12 (args w):Sem.run prog (callFunc 12 args) w = .ok (.enter 12 args) w:=call_x 12 args w func12
@[simp] theorem call13 (args w):Sem.run prog (callFunc 13 args) w = .ok (.enter 13 args) w:=call_x 13 args w func13
@[simp] theorem call14 (args w):Sem.run prog (callFunc 14 args) w = .ok (.enter 14 args) w:=call_x 14 args w func14
@[simp] theorem call15 (args w):Sem.run prog (callFunc 15 args) w = .ok (.enter 15 args) w:=call_x 15 args w func15
@[simp] theorem call16 (args w):Sem.run prog (callFunc 16 args) w = .ok (.enter 16 args) w:=call_x 16 args w func16
@[simp] theorem call17 (args w):Sem.run prog (callFunc 17 args) w = .ok (.enter 17 args) w:=call_x 17 args w func17
@[simp] theorem call30 (args w):Sem.run prog (callFunc 30 args) w = .ok (.enter 30 args) w:=call_x 30 args w func30
@[simp] theorem call35 (args w):Sem.run prog (callFunc 35 args) w = .ok (.enter 35 args) w:=call_x 35 args w func35
@[simp] theorem call42 (args w):Sem.run prog (callFunc 42 args) w = .ok (.enter 42 args) w:=call_x 42 args w func42
@[simp] theorem call44 (args w):Sem.run prog (callFunc 44 args) w = .ok (.enter 44 args) w:=call_x 44 args w func44
@[simp] theorem call45 (args w):Sem.run prog (callFunc 45 args) w = .ok (.enter 45 args) w:=call_x 45 args w func45
@[simp] theorem call46 (args w):Sem.run prog (callFunc 46 args) w = .ok (.enter 46 args) w:=call_x 46 args w func46
@[simp] theorem call48 (args w):Sem.run prog (callFunc 48 args) w = .ok (.enter 48 args) w:=call_x 48 args w func48
@[simp] theorem call50 (args w):Sem.run prog (callFunc 50 args) w = .ok (.enter 50 args) w:=call_x 50 args w func50
@[simp] theorem call51 (args w):Sem.run prog (callFunc 51 args) w = .ok (.enter 51 args) w:=call_x 51 args w func51
@[simp] theorem call52 (args w):Sem.run prog (callFunc 52 args) w = .ok (.enter 52 args) w:=call_x 52 args w func52
@[simp] theorem call53 (args w):Sem.run prog (callFunc 53 args) w = .ok (.enter 53 args) w:=call_x 53 args w func53
@[simp] theorem call54 (args w):Sem.run prog (callFunc 54 args) w = .ok (.enter 54 args) w:=call_x 54 args w func54
@[simp] theorem call55 (args w):Sem.run prog (callFunc 55 args) w = .ok (.enter 55 args) w:=call_x 55 args w func55
@[simp] theorem call56 (args w):Sem.run prog (callFunc 56 args) w = .ok (.enter 56 args) w:=call_x 56 args w func56
@[simp] theorem call57 (args w):Sem.run prog (callFunc 57 args) w = .ok (.enter 57 args) w:=call_x 57 args w func57
@[simp] theorem call74 (args w):Sem.run prog (callFunc 74 args) w = .ok (.enter 74 args) w:=call_x 74 args w func74
@[simp] theorem call80 (args w):Sem.run prog (callFunc 80 args) w = .ok (.enter 80 args) w:=call_x 80 args w func80
@[simp] theorem call89 (args w):Sem.run prog (callFunc 89 args) w = .ok (.enter 89 args) w:=call_x 89 args w func89
@[simp] theorem call93 (args w):Sem.run prog (callFunc 93 args) w = .ok (.enter 93 args) w:=call_x 93 args w func93
@[simp] theorem call94 (args w):Sem.run prog (callFunc 94 args) w = .ok (.enter 94 args) w:=call_x 94 args w func94
@[simp] theorem call112 (args w):Sem.run prog (callFunc 112 args) w = .ok (.enter 112 args) w:=call_x 112 args w func112
@[simp] theorem call113 (args w):Sem.run prog (callFunc 113 args) w = .ok (.enter 113 args) w:=call_x 113 args w func113
@[simp] theorem call119 (args w):Sem.run prog (callFunc 119 args) w = .ok (.enter 119 args) w:=call_x 119 args w func119
@[simp] theorem call145 (args w):Sem.run prog (callFunc 145 args) w = .ok (.enter 145 args) w:=call_x 145 args w func145
end Go.Proofs.Tryzx
end
namespace Go.Proofs.YtpblihmhpalkfaaGreat
namespace X
open Go.RowKit
theorem loadAt_1 {ls:List Int} {n i:Nat} (h:inB (nth ls (i*3)) 0 ((n:Int) - 2)=false):loadAt ls n i=false:=by simp [loadAt,h]
theorem loadAt_2 {ls:List Int} (n:Nat) {i:Nat} (h:inB (nth ls (i*3+1)) 0 10000=false):loadAt ls n i=false:=by simp [loadAt,h]
theorem loadAt_3 {ls:List Int} (n:Nat) {i:Nat} (h:inB (nth ls (i*3+2)) (-60) 60=false):loadAt ls n i=false:=by simp [loadAt,h]
theorem loadAt_t {ls:List Int} {n i:Nat} (h1:inB (nth ls (i*3)) 0 ((n:Int) - 2)=true) (h2:inB (nth ls (i*3+1)) 0 10000=true) (h3:inB (nth ls (i*3+2)) (-60) 60=true):loadAt ls n i=true:=by simp [loadAt,h1,h2,h3]
theorem loadsB_1 {zs:List Int} {n:Nat} (ls:List Int) (q:Nat) (h:archB zs n=false):loadsB zs n ls q=false:=by simp [loadsB,h]
theorem loadsB_2 (zs:List Int) (n:Nat) (ls:List Int) {q:Nat} (h:¬ q≤6):loadsB zs n ls q=false:=by simp [loadsB,h]
theorem loadsB_3 (zs:List Int) {n:Nat} {ls:List Int} {q k:Nat} (hk:k<q) (h:loadAt ls n k=false):loadsB zs n ls q=false:=by simp [loadsB,allB_f hk h]
set_option maxRecDepth 100000 in
set_option maxHeartbeats 1600000 in
theorem sLoadsOk_any (A:Option Addr) (n c:Nat) (zs:List Int) (B:Option Addr) (q d:Nat) (ls:List Int) (w:World) (h:RecsAt w w.heap.size 4 A n zs) (hn:n≤1048576) (hl:RecsAt w w.heap.size 3 B q ls) (hq:q≤1048576) :
  Calls Tryzx.prog 112 #[.agg #[.slice A n c],.slice B q d] w fun e w'=>e = .returned (.bool (loadsB zs n ls q))∧Below w.heap.size w w':=by
 have HA:=Lib.hid ((Below.refl w.heap.size w).alloc (Nat.le_refl _) (.cells #[.slice A n c] 26));have H:=Lib.hid h;have HL:=Lib.hid hl;clear h hl;go_enter Tryzx.func112,Tryz.ntmps112;go_wp2;go_loopw [5] (fun i wr=>∃ k:Nat,k≤q∧i = .int .i64 k∧allTo (loadAt ls n) k∧wr.cell? ⟨w.heap.size,0,none⟩=some (.slice A n c)∧Below w.heap.size w wr) (fun i _=>q - (intOf i).toNat)
 case atStart=>exact ⟨0,Nat.zero_le _,rfl,allTo_0 _,cell_new0 _ _ _,HA.out⟩
 case round =>
  clear HA;obtain ⟨k,hk,rfl,hag,hbox,hb⟩:=hrel;have HB:=Lib.hid hb;have hgl:=World.block_lt_of_cell? wr _ hbox;simp only at hgl;by_cases hlt:k<q
  ·obtain ⟨b,off,rfl,hbB,hc⟩:=HL.out.2 (by omega)
   obtain ⟨x0,x1,x2⟩:=ldCells (fun i hi=>(hb.cell (by exact hbB)).trans (hc i hi)) hlt;have hz:=hb.size;have HB0:=Lib.hid (fun o=>hb.alloc hz o);have HBX:=Lib.hid (fun o=>(World.cell?_alloc_lt wr o ⟨w.heap.size,0,none⟩ (by simp; omega)).trans hbox)
   clear hb hc;have T1:=Lib.hid (fun e=>loadsB_3 zs hlt (loadAt_1 (ls:=ls) (n:=n) (i:=k) e));have T2:=Lib.hid (fun e=>loadsB_3 zs hlt (loadAt_2 (ls:=ls) n (i:=k) e));have T3:=Lib.hid (fun e=>loadsB_3 zs hlt (loadAt_3 (ls:=ls) n (i:=k) e));have TS:=Lib.hid (fun e1 e2 e3=>allTo_step hag (loadAt_t (ls:=ls) (n:=n) (i:=k) e1 e2 e3));generalize nth ls (k*3)=y0 at *
   generalize nth ls (k*3+1)=y1 at *
   generalize nth ls (k*3+2)=y2 at *
   clear hag;cases h1:inB y0 0 ((n:Int) - 2)
   ·have HF:=Lib.hid (T1.out h1)
    go_wp2_with (go_at_call 97; refine (l01In_any _ _ _ _).mono ?_; rw [h1]; rintro e w' ⟨rfl,rfl⟩);go_ret;exact ⟨ret_bool HF.out.symm,HB0.out _⟩
   ·cases h2:inB y1 0 10000
    ·have HF:=Lib.hid (T2.out h2)
     go_wp2_with (go_at_call 97; refine (l01In_any _ _ _ _).mono ?_; (first | rw [h1] | rw [h2]); rintro e w' ⟨rfl,rfl⟩);go_ret;exact ⟨ret_bool HF.out.symm,HB0.out _⟩
    ·cases h3:inB y2 (-60) 60
     ·have HF:=Lib.hid (T3.out h3)
      go_wp2_with (go_at_call 97; refine (l01In_any _ _ _ _).mono ?_; (first | rw [h1] | rw [h2] | rw [h3]); rintro e w' ⟨rfl,rfl⟩);go_ret;exact ⟨ret_bool HF.out.symm,HB0.out _⟩
     ·have HS:=Lib.hid (TS.out h1 h2 h3)
      go_wp2_with (go_at_call 97; refine (l01In_any _ _ _ _).mono ?_; (first | rw [h1] | rw [h2] | rw [h3]); rintro e w' ⟨rfl,rfl⟩);go_roundw
      case rel=>exact ⟨k+1,by omega,by go_num,HS.out,HBX.out _,HB0.out _⟩
      case measure=>first | (simp [intOf]; done) | (simp [intOf]; omega)
  ·obtain rfl:k=q:=by omega
   have HAG:=Lib.hid hag;have h1:=(H.out.below hb).mono hb.size;clear hb hag;cases hA:archB zs n
   ·have HF:=Lib.hid (loadsB_1 ls k hA)
    go_wp2_with fail
    refine (sArchOk_any _ _ _ zs _ h1 hn).mono ?_;rw [hA];rintro e w1 ⟨rfl,hb1⟩;have HB1:=Lib.hid (HB.out.trans (hb1.mono HB.out.size));go_wp2;go_ret;exact ⟨ret_bool HF.out.symm,HB1.out⟩
   ·by_cases hq6:k≤6
    ·have HF:=Lib.hid (loadsB_t hA hq6 HAG.out)
     have ht:decide ((k:Int)≤6)=true:=by simp; omega
     go_wp2_with fail
     refine (sArchOk_any _ _ _ zs _ h1 hn).mono ?_;rw [hA];rintro e w1 ⟨rfl,hb1⟩;have HB1:=Lib.hid (HB.out.trans (hb1.mono HB.out.size));go_wp2;go_ret;exact ⟨ret_bool HF.out.symm,HB1.out⟩
    ·have HF:=Lib.hid (loadsB_2 zs n ls hq6)
     have ht:decide ((k:Int)≤6)=false:=by simp; omega
     go_wp2_with fail
     refine (sArchOk_any _ _ _ zs _ h1 hn).mono ?_;rw [hA];rintro e w1 ⟨rfl,hb1⟩;have HB1:=Lib.hid (HB.out.trans (hb1.mono HB.out.size));go_wp2;go_ret;exact ⟨ret_bool HF.out.symm,HB1.out⟩
set_option maxRecDepth 100000 in
set_option maxHeartbeats 1600000 in
theorem iLoadsOk_any (A:Option Addr) (n c:Nat) (zs:List Int) (B:Option Addr) (q d:Nat) (ls:List Int) (w:World) (h:RecsAt w w.heap.size 4 A n zs) (hn:n≤1048576) (hl:RecsAt w w.heap.size 3 B q ls) (hq:q≤1048576) :
  Calls Tryzx.prog 89 #[.agg #[.slice A n c],.slice B q d] w fun e w'=>e = .returned (.bool (loadsB zs n ls q))∧Below w.heap.size w w':=by
 have HA:=Lib.hid ((Below.refl w.heap.size w).alloc (Nat.le_refl _) (.cells #[.slice A n c] 26));have h1:RecsAt (w.alloc (.cells #[.slice A n c] 26)) (w.alloc (.cells #[.slice A n c] 26)).heap.size 4 A n zs:=(h.alloc (Nat.le_refl _) _).mono (by simp);have HL:=Lib.hid hl;clear h hl;cases hA:archB zs n
 ·have HF:=Lib.hid (loadsB_1 ls q hA)
  go_enter Tryzx.func89,Tryz.ntmps89;go_wp2_with fail
  refine (iArchOk_any _ _ _ zs _ h1 hn).mono ?_;rw [hA];rintro e w1 ⟨rfl,hb1⟩;have HB1:=Lib.hid (HA.out.trans (hb1.mono (by simp)));go_wp2;go_ret;exact ⟨ret_bool HF.out.symm,HB1.out⟩
 by_cases hq6:q≤6
 ·have ht:¬ (6:Int)<(q:Int):=by omega
  have HT:=Lib.hid (fun h3=>loadsB_t (ls:=ls) hA hq6 h3);go_enter Tryzx.func89,Tryz.ntmps89;go_wp2_with fail
  refine (iArchOk_any _ _ _ zs _ h1 hn).mono ?_;rw [hA];rintro e w1 ⟨rfl,hb1⟩;have HB1:=Lib.hid (HA.out.trans (hb1.mono (by simp)));have hbox1:=(hb1.cell (p:=⟨w.heap.size,0,none⟩) (by simp)).trans (cell_new0 _ _ _);clear hb1;go_wp2;go_loopw [17] (fun i wr=>∃ k:Nat,k≤q∧i = .int .i64 k∧allTo (loadAt ls n) k∧wr.cell? ⟨w.heap.size,0,none⟩=some (.slice A n c)∧Below w.heap.size w wr) (fun i _=>q - (intOf i).toNat)
  case atStart=>exact ⟨0,Nat.zero_le _,rfl,allTo_0 _,hbox1,HB1.out⟩
  case round =>
   clear HA HB1 hbox1;obtain ⟨k,hk,rfl,hag,hbox,hb⟩:=hrel;have HB:=Lib.hid hb;have hgl:=World.block_lt_of_cell? wr _ hbox;simp only at hgl;by_cases hlt:k<q
   ·obtain ⟨b,off,rfl,hbB,hc⟩:=HL.out.2 (by omega)
    obtain ⟨x0,x1,x2⟩:=ldCells (fun i hi=>(hb.cell (by exact hbB)).trans (hc i hi)) hlt;have hz:=hb.size;have HB0:=Lib.hid (fun o=>hb.alloc hz o);have HBX:=Lib.hid (fun o=>(World.cell?_alloc_lt wr o ⟨w.heap.size,0,none⟩ (by simp; omega)).trans hbox)
    clear hb hc;have T1:=Lib.hid (fun e=>loadsB_3 zs hlt (loadAt_1 (ls:=ls) (n:=n) (i:=k) e));have T2:=Lib.hid (fun e=>loadsB_3 zs hlt (loadAt_2 (ls:=ls) n (i:=k) e));have T3:=Lib.hid (fun e=>loadsB_3 zs hlt (loadAt_3 (ls:=ls) n (i:=k) e));have TS:=Lib.hid (fun e1 e2 e3=>allTo_step hag (loadAt_t (ls:=ls) (n:=n) (i:=k) e1 e2 e3));generalize nth ls (k*3)=y0 at *
    generalize nth ls (k*3+1)=y1 at *
    generalize nth ls (k*3+2)=y2 at *
    clear hag;cases g1:inB y0 0 ((n:Int) - 2)
    ·have HF:=Lib.hid (T1.out g1)
     go_wp2_with (go_at_call 76; refine (within_any _ _ _ _).mono ?_; rw [g1]; rintro e w' ⟨rfl,rfl⟩);go_ret;exact ⟨ret_bool HF.out.symm,HB0.out _⟩
    ·cases g2:inB y1 0 10000
     ·have HF:=Lib.hid (T2.out g2)
      go_wp2_with (go_at_call 76; refine (within_any _ _ _ _).mono ?_; (first | rw [g1] | rw [g2]); rintro e w' ⟨rfl,rfl⟩);go_ret;exact ⟨ret_bool HF.out.symm,HB0.out _⟩
     ·cases g3:inB y2 (-60) 60
      ·have HF:=Lib.hid (T3.out g3)
       go_wp2_with (first | (go_at_call 76; refine (within_any _ _ _ _).mono ?_; (first | rw [g1] | rw [g2]); rintro e w' ⟨rfl,rfl⟩) | (go_at_call 141; refine (isPlace_any _ _).mono ?_; rw [g3]; rintro e w' ⟨rfl,rfl⟩));go_ret;exact ⟨ret_bool HF.out.symm,HB0.out _⟩
      ·have HS:=Lib.hid (TS.out g1 g2 g3)
       go_wp2_with (first | (go_at_call 76; refine (within_any _ _ _ _).mono ?_; (first | rw [g1] | rw [g2]); rintro e w' ⟨rfl,rfl⟩) | (go_at_call 141; refine (isPlace_any _ _).mono ?_; rw [g3]; rintro e w' ⟨rfl,rfl⟩));go_roundw
       case rel=>exact ⟨k+1,by omega,by go_num,HS.out,HBX.out _,HB0.out _⟩
       case measure=>first | (simp [intOf]; done) | (simp [intOf]; omega)
   ·obtain rfl:k=q:=by omega
    have HF:=Lib.hid (HT.out hag);clear hb hag;go_wp2;go_ret;exact ⟨ret_bool HF.out.symm,HB.out⟩
 ·have HF:=Lib.hid (loadsB_2 zs n ls hq6)
  have ht:(6:Int)<(q:Int):=by omega
  go_enter Tryzx.func89,Tryz.ntmps89;go_wp2_with fail
  refine (iArchOk_any _ _ _ zs _ h1 hn).mono ?_;rw [hA];rintro e w1 ⟨rfl,hb1⟩;have HB1:=Lib.hid (HA.out.trans (hb1.mono (by simp)));go_wp2;go_ret;exact ⟨ret_bool HF.out.symm,HB1.out⟩
end X
namespace X
open Go.RowKit
theorem leftW_bd {ls:List Int} {n q:Nat} (zs:List Int) (h:allTo (loadAt ls n) q) (hq:q≤6):∀ k:Nat,-(200000*(k:Int))≤leftW zs ls q k∧leftW zs ls q k≤200000*(k:Int)
 | 0=>by simp [leftW]
 | k+1=>by
  have ih:=leftW_bd zs h hq k;have:=kwTo_bd zs h hq k (Nat.le_refl q);simp only [leftW];omega
theorem leftM_bd {ls:List Int} {n q:Nat} (zs:List Int) (h:allTo (loadAt ls n) q) (hq:q≤6):∀ k:Nat,-(9000000*(k:Int))≤leftM zs ls q k∧leftM zs ls q k≤9000000*(k:Int)
 | 0=>by simp [leftM]
 | k+1=>by
  have ih:=leftM_bd zs h hq k;have:=kmTo_bd zs h hq k (Nat.le_refl q);simp only [leftM];omega
end X
namespace X
open Go.RowKit
theorem magnitude_any (a:Int) (w:World) (ha:okG a):Calls Tryzx.prog 94 #[.int .i64 a] w fun e w'=>e = .returned (.int .u64 (a.natAbs:Nat))∧w=w':=by
 go_enter Tryzx.func94,Tryz.ntmps94;go_wp2;all_goals
  go_ret;first
  | exact ⟨ret_int (u64_neg ha (by assumption)),rfl⟩
  | exact ⟨ret_int (u64_pos ha (by assumption)),rfl⟩
set_option maxHeartbeats 400000 in
theorem commonDivisor_any (A:Option Addr) (n c:Nat) (L:List Int) (w:World) (h:IntsAt w w.heap.size A n L) (hn:n≤1048576) (hL:∀ k,okG (nth L k)) :
  Calls Tryzx.prog 57 #[.slice A n c] w fun e w'=>e = .returned (.int .i64 (gcdTo L n:Nat))∧∃ n,w'=w.drewN n:=by
 have H:=Lib.hid h;have HL:=Lib.hid hL;have HGL:Hid (∀ k,okU (gcdTo L k)):=fun k=>okU_gcdTo hL k
 clear h hL;go_enter Tryzx.func57,Tryz.ntmps57;go_wp2;go_loopw [3,9] (fun x i wr=>∃ (k:Nat),k≤n∧i = .int .i64 k∧x = .int .u64 (gcdTo L k:Nat)∧Hid (∃ n,wr=w.drewN n)) (fun _ i _=>n - (intOf i).toNat)
 case atStart=>exact ⟨0,Nat.zero_le _,rfl,rfl,Lib.hid ⟨0,rfl⟩⟩
 case round =>
  obtain ⟨k,hk,rfl,rfl,HW⟩:=hrel;by_cases hlt:k<n
  ·obtain ⟨b,off,rfl,hbB,hc⟩:=H.out.2 (by omega)
   have x0:wr.cell? ⟨b,off+k,none⟩=some (.int .i64 (nth L k)):=by
    obtain ⟨n',rfl⟩:=HW.out;exact hc k hlt
   have ho:=HL.out k;have HS:Hid (gcdTo L (k+1)=Nat.gcd (gcdTo L k) (nth L k).natAbs):=rfl;have hu:=HGL.out k;have hm:=okU_nat ho;clear hc;go_wp2_with fail
   refine (magnitude_any _ _ ho).mono ?_;rintro e w' ⟨rfl,rfl⟩;generalize gcdTo L k=d0 at *
   generalize (nth L k).natAbs=m0 at *
   go_wp2;go_loopw [3,6] (fun x y wr=>∃ (d m:Nat),x = .int .u64 d∧y = .int .u64 m∧Hid (Nat.gcd d m=Nat.gcd d0 m0)∧okU d∧okU m∧Hid (∃ n,wr=w.drewN n)) (fun _ y _=>(intOf y).toNat)
   case atStart=>exact ⟨d0,m0,rfl,rfl,Lib.hid rfl,hu,hm,HW⟩
   case round =>
    clear HW hu hm;obtain ⟨d,m,rfl,rfl,HG,hd,hm,HW⟩:=hrel;by_cases h0:m=0
    ·subst h0
     have HF:Hid (gcdTo L (k+1)=d):=by
      have h:=HG.out;rw [Nat.gcd_zero_right] at h;show _=_
      rw [HS.out,h]
     clear HG hm;go_wp2;go_roundw
     case rel=>exact ⟨k+1,by omega,by go_num,by rw [HF.out],HW⟩
     case measure=>simp [intOf]; omega
    ·have hd1:((m:Int) != 0)=true:=by simp [h0]
     have hd2:((m:Int) == 0)=false:=by simp [h0]
     have hd3:¬ (m:Int)=0:=by omega
     have he:Int.tmod (d:Int) (m:Int)=((d % m:Nat):Int):=by rw [Int.tmod_eq_emod_of_nonneg (by omega)]; rfl
     have HG2:Hid (Nat.gcd m (d % m)=Nat.gcd d0 m0):=by
      show _=_
      rw [gcd_round]; exact HG.out
     have HM:Hid (d % m<m):=Nat.mod_lt _ (by omega);have ho2:=okU_mod (d:=d) h0 hm;clear HG;go_wp2;go_quiet (fail)
     go_wp2;go_roundw
     case rel=>exact ⟨m,d % m,rfl,rfl,HG2,hm,ho2,by obtain ⟨n,rfl⟩:=HW.out; exact Lib.hid ⟨_,World.drewN_drewN _ _ _⟩⟩
     case measure=>simp [intOf]; exact HM.out
  ·obtain rfl:n=k:=by omega
   have hu:=u64_to_i64 (HGL.out n);go_wp2;go_ret;exact ⟨rfl,HW.out⟩
theorem okG_nth4 {a b c d:Int} (ha:okG a) (hb:okG b) (hc:okG c) (hd:okG d):∀ k,okG (nth [a,b,c,d] k)
 | 0=>ha
 | 1=>hb
 | 2=>hc
 | 3=>hd
 | k+4=>by simp [nth,List.getD,okG]
set_option maxRecDepth 100000 in
set_option maxHeartbeats 1600000 in
theorem iThrustOk_any (H V M D:Int) (w:World) :
  Calls Tryzx.prog 53 #[.agg #[.int .i64 H,.int .i64 V,.int .i64 M,.int .i64 D]] w fun e w'=>e = .returned (.bool (thrB H V M D))∧Below w.heap.size w w':=by
 have HA:=Lib.hid ((Below.refl w.heap.size w).alloc (Nat.le_refl _) (.cells #[.int .i64 H,.int .i64 V,.int .i64 M,.int .i64 D] 31));cases h1:inB D 1 1000000
 ·have HF:=Lib.hid (thrB_1 H V M h1)
  go_enter Tryzx.func53,Tryz.ntmps53;go_wp2_with (go_at_call 76; refine (within_any _ _ _ _).mono ?_; rw [h1]; rintro e w' ⟨rfl,rfl⟩);go_ret;exact ⟨ret_bool HF.out.symm,HA.out⟩
 cases h2:inB H 0 1000000000000
 ·have HF:=Lib.hid (thrB_2 V M D h2)
  go_enter Tryzx.func53,Tryz.ntmps53;go_wp2_with (go_at_call 76; refine (within_any _ _ _ _).mono ?_; (first | rw [h1] | rw [h2]); rintro e w' ⟨rfl,rfl⟩);go_ret;exact ⟨ret_bool HF.out.symm,HA.out⟩
 cases h3:inB V (-10000000000000) 10000000000000
 ·have HF:=Lib.hid (thrB_3 H M D h3)
  go_enter Tryzx.func53,Tryz.ntmps53;go_wp2_with (go_at_call 76; refine (within_any _ _ _ _).mono ?_; (first | rw [h1] | rw [h2] | rw [h3]); rintro e w' ⟨rfl,rfl⟩);go_ret;exact ⟨ret_bool HF.out.symm,HA.out⟩
 cases h4:inB M (-10000000000000) 10000000000000
 ·have HF:=Lib.hid (thrB_4 H V D h4)
  go_enter Tryzx.func53,Tryz.ntmps53;go_wp2_with (go_at_call 76; refine (within_any _ _ _ _).mono ?_; (first | rw [h1] | rw [h2] | rw [h3] | rw [h4]); rintro e w' ⟨rfl,rfl⟩);go_ret;exact ⟨ret_bool HF.out.symm,HA.out⟩
 have HT:Hid (decide (gcdTo [H,V,M,D] 4=1)=thrB H V M D):=by
  show _=_
  rw [thrB_t h1 h2 h3 h4,gcdTo_4]
 have HOK:Hid (∀ k,okG (nth [H,V,M,D] k)):=by
  have b1:=inB_iff.1 h1;have b2:=inB_iff.1 h2;have b3:=inB_iff.1 h3;have b4:=inB_iff.1 h4;exact okG_nth4 (okG_of (by omega)) (okG_of (by omega)) (okG_of (by omega)) (okG_of (by omega))
 go_enter Tryzx.func53,Tryz.ntmps53;go_wp2_with (go_at_call 76; refine (within_any _ _ _ _).mono ?_; (first | rw [h1] | rw [h2] | rw [h3] | rw [h4]); rintro e w' ⟨rfl,rfl⟩);have hx:IntsAt ((w.alloc (.cells #[.int .i64 H,.int .i64 V,.int .i64 M,.int .i64 D] 31)).alloc (.cells #[.int .i64 H,.int .i64 V,.int .i64 M,.int .i64 D] 3)) ((w.alloc (.cells #[.int .i64 H,.int .i64 V,.int .i64 M,.int .i64 D] 31)).alloc (.cells #[.int .i64 H,.int .i64 V,.int .i64 M,.int .i64 D] 3)).heap.size (some ⟨w.heap.size+1,0,none⟩) 4 [H,V,M,D]:=by
  have h:=intsAt_row (World.rowIs_alloc (w.alloc (.cells #[.int .i64 H,.int .i64 V,.int .i64 M,.int .i64 D] 31)) #[.int .i64 H,.int .i64 V,.int .i64 M,.int .i64 D] 3 (ints [H,V,M,D]) (fun j hj=>by simp at hj; match j,hj with | 0,_=>rfl | 1,_=>rfl | 2,_=>rfl | 3,_=>rfl)) (zs := [H,V,M,D]) (by simp) (fun k _=>rfl)
  simp only [World.size_alloc] at h ⊢;exact h
 refine (commonDivisor_any _ _ _ [H,V,M,D] _ (by exact hx) (by omega) HOK.out).mono ?_;rintro e w1 ⟨rfl,n1,rfl⟩;have HG:=Lib.hid (gcd_one (gcdTo [H,V,M,D] 4));clear hx;generalize gcdTo [H,V,M,D] 4=g0 at *
 go_wp2;go_ret;exact ⟨ret_bool (by rw [← HT.out]; first | exact HG.out | simp),below_drewN (HA.out.alloc (by simp) _) _⟩
end X
namespace X
open Go.RowKit
theorem at_below (w:World) (v:Value) (H V M D:Int) (T U:TypeId):Below w.heap.size w ((w.alloc (.cells #[v] T)).alloc (.cells #[.int .i64 H,.int .i64 V,.int .i64 M,.int .i64 D] U)):=((Below.refl _ _).alloc (Nat.le_refl _) _).alloc (by simp) _
end X
namespace X
open Go.RowKit
theorem gmul_bd {a b m n:Int} (ha : -m≤a∧a≤m) (hb : -n≤b∧b≤n) : -(m*n)≤a*b∧a*b≤m*n:=mul_bd ha hb
def fulB (a b c d H V M D:Int):Bool:=thrB H V M D && (rowB a b c d && metB a b c d H V M D)
theorem fulB_1 (a b c d:Int) {H V M D:Int} (h:thrB H V M D=false):fulB a b c d H V M D=false:=by simp [fulB,h]
theorem fulB_2 {a b c d:Int} (H V M D:Int) (h:rowB a b c d=false):fulB a b c d H V M D=false:=by simp [fulB,h]
theorem fulB_t {a b c d H V M D:Int} (h:thrB H V M D=true) (h2:rowB a b c d=true):fulB a b c d H V M D=metB a b c d H V M D:=by simp [fulB,h,h2]
def fulAt (rs:List Int) (H V M D:Int) (i:Nat):Bool:=fulB (nth rs (i*4)) (nth rs (i*4+1)) (nth rs (i*4+2)) (nth rs (i*4+3)) H V M D
def fulAll (rs:List Int) (n:Nat) (H V M D:Int):Bool:=inB (n:Int) 1 40 && allB (fulAt rs H V M D) n
theorem fulAll_1 (rs:List Int) {n:Nat} (H V M D:Int) (h:inB (n:Int) 1 40=false):fulAll rs n H V M D=false:=by simp [fulAll,h]
theorem fulAll_2 {rs:List Int} {n k:Nat} {H V M D:Int} (hk:k<n) (h:fulAt rs H V M D k=false):fulAll rs n H V M D=false:=by simp [fulAll,allB_f hk h]
theorem fulAll_t {rs:List Int} {n:Nat} {H V M D:Int} (h1:inB (n:Int) 1 40=true) (h:allTo (fulAt rs H V M D) n):fulAll rs n H V M D=true:=by simp [fulAll,h1,allB_t h]
set_option maxRecDepth 100000 in
set_option maxHeartbeats 1600000 in
theorem sides_any (a b c d H V M D:Int) (w:World) (hb:SideBd a b c d H V M D) :
  Calls Tryzx.prog 145 #[.agg #[.int .i64 a,.int .i64 b,.int .i64 c,.int .i64 d],.agg #[.int .i64 H,.int .i64 V,.int .i64 M,.int .i64 D]] w fun e w'=>e = .returned (.tuple #[.int .i64 (a*H+b*V+c*M),.int .i64 (d*D)])∧Below w.heap.size w w':=by
 obtain ⟨b1,b2,b3,b4⟩:=hb;have HA:=Lib.hid (((Below.refl w.heap.size w).alloc (Nat.le_refl _) (.cells #[.int .i64 a,.int .i64 b,.int .i64 c,.int .i64 d] 130)).alloc (by simp) (.cells #[.int .i64 H,.int .i64 V,.int .i64 M,.int .i64 D] 31));go_enter Tryzx.func145,Tryz.ntmps145;go_wp2_with fail
 go_quiet (fail)
 go_wp2;go_ret2;exact ⟨rfl,below_drewN HA.out _⟩
set_option maxRecDepth 100000 in
set_option maxHeartbeats 1600000 in
theorem iFulfills_any (a b c d H V M D:Int) (w:World) :
  Calls Tryzx.prog 93 #[.agg #[.int .i64 H,.int .i64 V,.int .i64 M,.int .i64 D],.agg #[.int .i64 a,.int .i64 b,.int .i64 c,.int .i64 d]] w fun e w'=>e = .returned (.bool (fulB a b c d H V M D))∧Below w.heap.size w w':=by
 have HT:=Lib.hid (TRi.start w a b c d H V M D 31 130);cases hT:thrB H V M D
 ·have HF:=Lib.hid (fulB_1 a b c d hT)
  go_enter Tryzx.func93,Tryz.ntmps93;go_wp2_with fail
  refine (iThrustOk_any _ _ _ _ _).mono ?_;rw [hT];rintro e w1 ⟨rfl,hb1⟩;have HT1:=Lib.hid (HT.out.after hb1);clear hb1;go_wp2;go_ret;exact ⟨ret_bool HF.out.symm,HT1.out.below⟩
 cases hR:rowB a b c d
 ·have HF:=Lib.hid (fulB_2 H V M D hR)
  go_enter Tryzx.func93,Tryz.ntmps93;go_wp2_with fail
  refine (iThrustOk_any _ _ _ _ _).mono ?_;rw [hT];rintro e w1 ⟨rfl,hb1⟩;have HT1:=Lib.hid (HT.out.after hb1);obtain ⟨c0,c1,c2,c3⟩:=HT1.out.row.1;clear hb1;go_wp2_with fail
  refine (iRowOk_any _ _ _ _ _).mono ?_;rw [hR];rintro e w2 ⟨rfl,hb2⟩;have HT2:=Lib.hid (HT1.out.after hb2);clear hb2;go_wp2;go_ret;exact ⟨ret_bool HF.out.symm,HT2.out.below⟩
 have HF:=Lib.hid (fulB_t hT hR);have HS:=Lib.hid (sideBd hT hR);go_enter Tryzx.func93,Tryz.ntmps93;go_wp2_with fail
 refine (iThrustOk_any _ _ _ _ _).mono ?_;rw [hT];rintro e w1 ⟨rfl,hb1⟩;have HT1:=Lib.hid (HT.out.after hb1);obtain ⟨c0,c1,c2,c3⟩:=HT1.out.row.1;clear hb1;go_wp2_with fail
 refine (iRowOk_any _ _ _ _ _).mono ?_;rw [hR];rintro e w2 ⟨rfl,hb2⟩;have HT2:=Lib.hid (HT1.out.after hb2);clear c0 c1 c2 c3 hb2;obtain ⟨c0,c1,c2,c3⟩:=HT2.out.row.1;obtain ⟨d0,d1,d2,d3⟩:=HT2.out.thr.1;go_wp2_with fail
 refine (sides_any _ _ _ _ _ _ _ _ _ HS.out).mono ?_;rintro e w3 ⟨rfl,hb3⟩;have HT3:=Lib.hid (HT2.out.after hb3);clear c0 c1 c2 c3 d0 d1 d2 d3 hb3;go_wp2;go_ret;exact ⟨ret_bool (by rw [HF.out]; try rfl),HT3.out.below⟩
set_option maxRecDepth 100000 in
set_option maxHeartbeats 1600000 in
theorem iFulfillsAll_any (A:Option Addr) (n c:Nat) (rs:List Int) (H V M D:Int) (w:World) (h:RecsAt w w.heap.size 4 A n rs) (hn:n≤1048576) :
  Calls Tryzx.prog 56 #[.agg #[.int .i64 H,.int .i64 V,.int .i64 M,.int .i64 D],.slice A n c] w fun e w'=>e = .returned (.bool (fulAll rs n H V M D))∧Below w.heap.size w w':=by
 have HL:=Lib.hid h;have BX:=Lib.hid (Box4.new w H V M D 31);have B0:=Lib.hid ((Below.refl w.heap.size w).alloc (Nat.le_refl _) (.cells #[.int .i64 H,.int .i64 V,.int .i64 M,.int .i64 D] 31));clear h;cases hI:inB (n:Int) 1 40
 ·have HF:=Lib.hid (fulAll_1 rs H V M D hI)
  go_enter Tryzx.func56,Tryz.ntmps56;go_wp2_with (go_at_call 76; refine (within_any _ _ _ _).mono ?_; rw [hI]; rintro e w' ⟨rfl,rfl⟩);go_ret;exact ⟨ret_bool HF.out.symm,B0.out⟩
 have HT0:=Lib.hid (fun e=>fulAll_t (rs:=rs) (H:=H) (V:=V) (M:=M) (D:=D) hI e);go_enter Tryzx.func56,Tryz.ntmps56;go_wp2_with (go_at_call 76; refine (within_any _ _ _ _).mono ?_; rw [hI]; rintro e w' ⟨rfl,rfl⟩);go_loopw [13] (fun i wr=>∃ k:Nat,k≤n∧i = .int .i64 k∧Hid (allTo (fulAt rs H V M D) k)∧Hid (Box4 wr w.heap.size H V M D)∧Hid (Below w.heap.size w wr)) (fun i _=>n - (intOf i).toNat)
 case atStart=>exact ⟨0,Nat.zero_le _,rfl,Lib.hid (allTo_0 _),BX,B0⟩
 case round =>
  clear BX B0;obtain ⟨k,hk,rfl,HP,HX,HB⟩:=hrel;by_cases hlt:k<n
  ·obtain ⟨b,off,rfl,hbB,hc⟩:=HL.out.2 (by omega)
   obtain ⟨x0,x1,x2,x3⟩:=rwCells (fun i hi=>(HB.out.cell (by exact hbB)).trans (hc i hi)) hlt;have hz:=HB.out.size;have HS:=Lib.hid (fun e=>allTo_step HP.out (k:=k) e);have HF0:=Lib.hid (fun e=>fulAll_2 (rs:=rs) (H:=H) (V:=V) (M:=M) (D:=D) hlt e);have eR:fulAt rs H V M D k=fulB (nth rs (k*4)) (nth rs (k*4+1)) (nth rs (k*4+2)) (nth rs (k*4+3)) H V M D:=rfl;have ER:=Lib.hid eR;clear hc eR;generalize nth rs (k*4)=y0 at *
   generalize nth rs (k*4+1)=y1 at *
   generalize nth rs (k*4+2)=y2 at *
   generalize nth rs (k*4+3)=y3 at *
   have HBA:=Lib.hid (HB.out.alloc hz (.cells #[.int .i64 y0,.int .i64 y1,.int .i64 y2,.int .i64 y3] 130));have HXA:=Lib.hid (HX.out.after ((Below.refl _ _).alloc (Nat.le_refl _) (.cells #[.int .i64 y0,.int .i64 y1,.int .i64 y2,.int .i64 y3] 130)));obtain ⟨⟨z0,z1,z2,z3⟩,_⟩:=Box4.new wr y0 y1 y2 y3 130;obtain ⟨c0,c1,c2,c3⟩:=HXA.out.1;go_wp2_with fail
   refine (iFulfills_any _ _ _ _ _ _ _ _ _).mono ?_;rintro e w1 ⟨rfl,hb1⟩;have HB1:=Lib.hid (HBA.out.trans (hb1.mono (by first | (simp; omega) | omega)))
   have HX1:=Lib.hid (HXA.out.after hb1);clear hb1 c0 c1 c2 c3;cases g:fulB y0 y1 y2 y3 H V M D
   ·have HF:=Lib.hid (HF0.out (ER.out.trans g))
    go_wp2;go_ret;exact ⟨ret_bool HF.out.symm,HB1.out⟩
   ·have HS1:=Lib.hid (HS.out (ER.out.trans g))
    go_wp2;go_roundw
    case rel=>exact ⟨k+1,by omega,by go_num,HS1,HX1,HB1⟩
    case measure=>simp [intOf]; omega
  ·obtain rfl:k=n:=by omega
   have HF:=Lib.hid (HT0.out HP.out);go_wp2;go_ret;exact ⟨ret_bool HF.out.symm,HB.out⟩
end X
end Go.Proofs.YtpblihmhpalkfaaGreat
section
namespace Go.Proofs.Tryzx
theorem ntmps3:Tryz.f3.ntmps=174:=Tryz.ntmps3
theorem ntmps8:Tryz.f8.ntmps=14:=Tryz.ntmps8
theorem ntmps42:Tryz.f42.ntmps=23:=Tryz.ntmps42
theorem ntmps80:Tryz.f80.ntmps=50:=Tryz.ntmps80
theorem ntmps119:Tryz.f119.ntmps=12:=Tryz.ntmps119
end Go.Proofs.Tryzx
end
namespace Go.Proofs.YtpblihmhpalkfaaGreat
section
open Go.RowKit
theorem OwnR.rowInts {w:World} {base:Nat} {E:TypeId} {A:Option Addr} {n c:Nat} {xs:List Int} (h:OwnR w base E 1 (.slice A n c) n xs) (hn:0<n):∃ g,A=some ⟨g,0,none⟩∧base≤g∧RowF w g E n (Go.Proofs.YtpblihmhpalkfaaGreat.ints xs):=by
 rcases h.form with ⟨_,h2,_⟩ | ⟨g,cap,e,h2,_,hr⟩
 ·omega
 ·simp at e
  rw [Nat.mul_one] at hr;exact ⟨g,e.1,h2,hr⟩
end
section
open Go.RowKit
theorem wpList_appZ2 {P:Program} (w:World) {ops:Array Oper} {rest:List Oper} {o:Oper} {a:Act} {Q:Exit→Act→World→Prop} (hgd:o.guard=none) (s x:Operand) (t:TypeId)
  (ho:o.op = .call { callee := .builtin .append,args := #[s,x],argTypes := #[t,t] })
  (base:Nat) (E:TypeId) (K bytes:Nat) (zv:Value) (ht:P.underlying t=some (.slice E)) (hinfo:(P.info? E).map (fun i=>(i.zero,i.size,i.bytes))=some (some zv,K,bytes)) (hzc:zv.cells.size=K) (hK:0<K) (hby:bytes≤1024)
  (v:Value) (n:Nat) (xs:List Int) (hs:a.eval s=v) (hown:OwnR w base E K v n xs) (g m c:Nat) (ys:List Int) (hx:a.eval x = .slice (some ⟨g,0,none⟩) m c) (hy:ys.length=m*K)
  (hg:∀ i,i<m*K→w.cell? ⟨g,i,none⟩=some (.int .i64 (nth ys i))) (hn:n+m≤1048576) (B:Nat) (w0:World) (hb:Below B w0 w) (hB:B≤base) (hbase:base≤w.heap.size) (xs':List Int) (hxs:xs ++ ys=xs')
  (u:Value) (nu:Nat) (us:List Int) (hu:OwnR w base E K u nu us) (hap:ApartV v u)
  (h:∀ g' cap' w',OwnR w' base E K (.slice (some ⟨g',0,none⟩) (n+m) cap') (n+m) xs'→Below B w0 w'→OwnR w' base E K u nu us→ApartV (.slice (some ⟨g',0,none⟩) (n+m) cap') u→(∀ g2 T m2 f,T ≠ E→RowF w g2 T m2 f→RowF w' g2 T m2 f)→wpList P ops Q rest (a.put o.dst (.slice (some ⟨g',0,none⟩) (n+m) cap')) w') (hm:1≤m):wpList P ops Q (o :: rest) a w:=by
 subst hxs;obtain ⟨i0,hi0,hz0,hz1,hz2⟩:=info_parts hinfo;have hbb:(n+m)*bytes≤1048576*1024:=Nat.mul_le_mul hn hby;have hnews:∀ j v,(ys.map (Value.int .i64))[j]?=some v→w.cell? ((⟨g,0,none⟩:Addr).add j)=some v:=by
  intro j u hj;have hjl:j<ys.length:=by
   have:=(List.getElem?_eq_some_iff.1 hj).1;simpa using this
  rw [List.getElem?_map,List.getElem?_eq_getElem hjl] at hj;simp at hj;subst hj;rw [Go.WideShapes.add_plain,Nat.zero_add,hg j (by rw [← hy]; exact hjl),nth_get ys j hjl]
 have hone:∀ v ∈ ys.map (Value.int .i64),v.oneCell'=true:=by
  intro u hu;obtain ⟨z,_,rfl⟩:=List.mem_map.1 hu;rfl
 have fin:∀ g' cap' w',w'.ownsRow base E K (.slice (some ⟨g',0,none⟩) (n+m) cap') (n+m) (xs.map (Value.int .i64) ++ ys.map (Value.int .i64))→w.grownBy w' v.ownBlock→(v.ownBlock=some g' ∨ w.heap.size≤g')→wpList P ops Q rest (a.put o.dst (.slice (some ⟨g',0,none⟩) (n+m) cap')) w':=by
  intro g' cap' w' ho' hgr hwhere;refine h g' cap' w' ⟨by rw [List.map_append]; exact ho',by rw [List.length_append,hown.2,hy,Nat.add_mul]⟩ (hb.grown hgr (by omega) (fun k hk=>by have:=hown.ownLt k hk; omega)) (hu.other hgr (fun k hk e=>hap k e hk)) ?_ (fun g2 T m2 f hT hr=>hr.of_block (grown_block hgr g2 hr.lt (fun e=>hT (hown.typeOf g2 e.symm hr))))
  intro k hk hk2;simp [Value.ownBlock] at hk;subst hk;rcases hwhere with e | e
  ·exact hap _ e hk2
  ·have:=hu.blockLt _ hk2
   omega
 by_cases hfit:∃ g0 cap0,v = .slice (some ⟨g0,0,none⟩) n cap0∧n+m≤cap0
 ·obtain ⟨g0,cap0,rfl,hfit⟩:=hfit
  refine wpList_append_fits w hgd s x t ho base E i0 K ht hi0 hz1 g0 n cap0 _ hs hown.1 ⟨g,0,none⟩ m c _ hx (by simpa using hy) hnews hone hfit ?_;intro w' ho' hgr;exact fin g0 cap0 w' ho' hgr (.inl rfl)
 ·obtain ⟨A0,cap0,rfl,hnc⟩:=hown.slice
  have hA:A0=none→n=0∧cap0=0:=by
   intro e;subst e;rcases hown.form with ⟨e,e2,_⟩ | ⟨g0,c0,e,_⟩
   ·simp at e
    exact ⟨e2,e.2⟩
   ·simp at e
  have hrec:=hown.recs;have hfull:cap0<n+m:=by
   rcases hown.form with ⟨e,e2,_⟩ | ⟨g0,c0,e,_⟩
   ·simp at e
    omega
   ·simp at e
    obtain ⟨rfl,rfl⟩:=e;have:¬ n+m≤cap0:=fun hh=>hfit ⟨g0,cap0,rfl,hh⟩
    omega
  refine wpList_append_grows w hgd s x t ho E i0 zv K bytes ht hi0 hz0 hz1 hz2 hzc hK A0 n cap0 (xs.map (Value.int .i64)) hs hA (by simpa using hown.2) ?_ ⟨g,0,none⟩ m c _ hx (by simpa using hy) hnews hone hfull (by unfold maxLen; omega) (by omega) ?_
  ·intro b hb' j v hj
   subst hb';have hjl:j<xs.length:=by
    have:=(List.getElem?_eq_some_iff.1 hj).1;simpa using this
   rw [List.getElem?_map,List.getElem?_eq_getElem hjl] at hj;simp at hj;subst hj;have hn0:0<n:=by
    rcases Nat.eq_zero_or_pos n with e | e
    ·rw [hown.2,e,Nat.zero_mul] at hjl; omega
    ·exact e
   obtain ⟨b',off,e,_,hcc⟩:=hrec.2 hn0;simp at e;subst e;rw [Go.WideShapes.add_plain,hcc j (by rw [← hown.2]; exact hjl),nth_get xs j hjl]
  ·intro v' w' ho' hgr
   have hgr':w.grownBy w' (Value.slice A0 n cap0).ownBlock:=by
    obtain ⟨a1,a2,a3,a4,a5⟩:=hgr;exact ⟨a1,a2,a3,a4,fun k hk _=>a5 k hk (by simp)⟩
   rcases ho'.2 with ⟨_,h2⟩ | ⟨g',cap',cur,rfl,hg',hr⟩
   ·omega
   ·refine fin g' cap' w' ⟨ho'.1,.inr ⟨g',cap',cur,rfl,by omega,hr⟩⟩ hgr' (.inr hg')
end
end Go.Proofs.YtpblihmhpalkfaaGreat
