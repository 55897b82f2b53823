/-
  Texts that the law stands on, part 1.
-/
import Derived.Test.YtjcgklifabcfkaaGreatM1
import Derived.Test.YtjcgklifabcfkaaGreatM10
import Derived.Test.YtjcgklifabcfkaaGreatM15
import Derived.Test.YtjcgklifabcfkaaGreatM18
import Derived.Test.YtjcgklifabcfkaaGreatM20
import Derived.Test.YtjcgklifabcfkaaGreatProg
import Derived.KernelRfl
import Derived.Deep.RegionHeld3
import Derived.Outline
set_option maxRecDepth 100000
set_option linter.unusedVariables false
set_option linter.unusedSimpArgs false
section
namespace Go.Proofs.Tryzx
theorem func123:prog.funcs[123]?=some Tryz.f123:=by kernel_rfl
@[simp] theorem call123 (args w):Sem.run prog (callFunc 123 args) w = .ok (.enter 123 args) w:=call_x 123 args w func123
end Go.Proofs.Tryzx
end
namespace Go.Proofs.YtjcgklifabcfkaaGreat
namespace Rn
open Go.Conc Go.WideShapes Go.ChangeShapes Go.ChangeAt
theorem pair_atCells {P:Program} {w:World} {r:Reach} {base:Nat} {t u u' e e':TypeId} {fs:Array Field} {A B:Option Addr} {n c q d:Nat} (ht:P.underlying t=some (.struct fs)) (hc:P.cellTypes P.depth t=some [u,u']) (hu:P.underlying u=some (.slice e)) (hu':P.underlying u'=some (.slice e')) (h:Value.okWide P w r base t (.agg #[.slice A n c,.slice B q d])):AtCells w A∧AtCells w B:=by
 simp only [Value.okWide,ht] at h;obtain ⟨cs,e1,_,ts,h2,_,h3⟩:=h;cases e1;rw [hc] at h2; cases h2;obtain ⟨v,hv,h4⟩:=h3 0 _ rfl;obtain ⟨v',hv',h5⟩:=h3 1 _ rfl;simp at hv hv';subst hv;subst hv';exact ⟨cell_atCells hu h4,cell_atCells hu' h5⟩
def AtRoom (w:World) (A:Option Addr) (c:Nat):Prop:=c=0 ∨ AtCells w A
theorem cell_block {w:World} {p:Addr} {u:Value} (h:w.cell? p=some u):p.spot=none∧∃ c t z,w.heap[p.block]?=some (.cells c t z):=by
 have hs:=World.cell?_spot h;refine ⟨hs,?_⟩;cases hb:w.heap[p.block]? with
 | none=>simp [World.cell?,hb] at h
 | some o =>
  cases o with
  | cells c t z=>exact ⟨c,t,z,rfl⟩
  | _=>simp [World.cell?,hb] at h
def Room1 (P:Program) (e:TypeId):Prop:=P.cellsOf e=1∧∀ (H:Type) (enc:TypeId × Value→H) (w:World) (fuel:Nat) (v:Value) (x:DataW H × List MemPlace),
 DataW.trod enc P w 0 (fun _=>true) true fuel e [v]=some x→∀ (A:Option Addr) (n c:Nat),v = .slice A n c→AtRoom w A c
theorem room1_slice {P:Program} {t e:TypeId} {K:Nat} (ht:P.underlying t=some (.slice e)) (hfl:Flat P e K) (hK:0<K) (hc:P.cellsOf t=1):Room1 P t:=by
 refine ⟨hc,fun H enc W fuel v x h => ?_⟩;rcases Deep.open_slice ht h with ⟨h0,_⟩ | ⟨a,len,cap,m,n,D,Pl,hcs,_,hl,hm,hmm,hx,hi⟩
 ·simp at h0
  subst h0;intro A n c e;cases e;exact .inl rfl
 ·simp at hcs
  subst hcs;simp only [if_true] at hmm;subst hmm;intro A n' c e;simp only [Value.slice.injEq] at e;obtain ⟨rfl,rfl,rfl⟩:=e;by_cases h0:m=0
  ·exact .inl h0
  ·refine .inr fun a' ea => ?_
   cases ea;obtain ⟨cs',hc',ht'⟩:=hi 0 (by omega);rw [hfl.1] at hc';obtain ⟨_,hcl,hat⟩:=World.cells?_some hc';have hcell:=hat 0 hK;have hcs0:0<cs'.length:=by omega
   rw [List.getElem?_eq_getElem hcs0] at hcell;obtain ⟨h1,h2⟩:=cell_block hcell;exact ⟨by simpa [Addr.add] using h1,by simpa [Addr.add] using h2⟩
theorem room1_struct {P:Program} {t:TypeId} {f:Field} (ht:P.underlying t=some (.struct #[f])) (h1:Room1 P f.type) (ho:f.offset=0) (hc:P.cellsOf t=1):Room1 P t:=by
 refine ⟨hc,fun H enc w fuel v x h => ?_⟩;obtain ⟨y0,n,rfl,_,hy⟩:=trod_struct1 ht h;rw [ho,h1.1] at hy;exact h1.2 H enc w n v y0 (by simpa using hy)
def InnerOk (v:World) (A:Option Addr) (n:Nat):Prop:=∀ i,i<n→∀ b off,A=some ⟨b,off,none⟩→∀ Ai ni ci,v.cell? ⟨b,off+i,none⟩=some (.slice Ai ni ci)→AtRoom v Ai ci
theorem open_inner {H:Type} {enc:TypeId × Value→H} {P:Program} {W:World} {t e:TypeId} {fuel:Nat} {A:Option Addr} {n c:Nat} {x:DataW H × List MemPlace} (ht:P.underlying t=some (.slice e)) (h1:Room1 P e)
  (h:DataW.trod enc P W 0 (fun _=>true) true fuel t [.slice A n c]=some x):InnerOk W A n:=by
 rcases Deep.open_slice1 ht h1.1 h with ⟨h0,_⟩ | ⟨a,len,cap,m,k,V,D,Pl,hcs,_,hl,hm,hmm,hx,hi⟩
 ·simp at h0
  obtain ⟨rfl,rfl,rfl⟩:=h0;intro i hi;omega
 ·simp at hcs
  obtain ⟨rfl,rfl,rfl⟩:=hcs;simp only [if_true] at hmm;intro i hin b off ea Ai ni ci hcell;cases ea;obtain ⟨hv,hd⟩:=hi i (by omega);rw [Go.WideShapes.add_plain] at hv;rw [hcell] at hv;exact h1.2 H enc W k (V i) _ hd Ai ni ci (Option.some.inj hv).symm
noncomputable def innV (v:World) (A:Option Addr) (i:Nat):Value:=match A with
 | some a=>(v.cell? ⟨a.block,a.off+i,none⟩).getD undef
 | none=>undef
def inA:Value→Option Addr
 | .slice A _ _=>A
 | _=>none
def inC:Value→Nat
 | .slice _ _ c=>c
 | _=>0
noncomputable def inWin (K:Nat) (v:World) (A:Option Addr) (L:List (Nat × List Int)) (i:Nat):Win:=if inC (innV v A i)=0 then ⟨false,0,0,#[]⟩ else winOf .i64 (inA (innV v A i)) (rowN L i*K) (rowZ L i)
noncomputable def inVal (base:Nat) (v:World) (A:Option Addr) (L:List (Nat × List Int)) (i:Nat):Value:=if inC (innV v A i)=0 then .slice (inA (innV v A i)) 0 0 else .slice (lA (inA (innV v A i)) (base+i)) (rowN L i) (inC (innV v A i))
noncomputable def outWin (base:Nat) (v:World) (A:Option Addr) (n:Nat) (L:List (Nat × List Int)):Win:=match A with
 | none=>⟨false,0,0,#[]⟩
 | some a=>⟨true,a.block,a.off,((List.range n).map fun i=>inVal base v A L i).toArray⟩
section
variable {noT : TypeId} {ws : List Win} {v : World} {B K n c i base o : Nat} {A : Option Addr} {L : List (Nat × List Int)}
theorem inner_is (h:NestAt v B K A n L) (hin:InnerOk v A n) (hi:i<n):∃ b off Ai ci,A=some ⟨b,off,none⟩∧v.cell? ⟨b,off+i,none⟩=some (.slice Ai (rowN L i) ci)∧innV v A i = .slice Ai (rowN L i) ci∧RecsAt v B K Ai (rowN L i) (rowZ L i)∧rowN L i≤ci∧ci≤maxLen∧AtRoom v Ai ci:=by
 obtain ⟨b,off,rfl,hb,hc⟩:=h.2 (by omega);obtain ⟨Ai,ci,h1,h2,h3,h4⟩:=hc i hi;exact ⟨b,off,Ai,ci,rfl,h1,by simp [innV,h1],h2,h3,h4,hin i hi b off rfl Ai _ ci h1⟩
theorem inWin_ok (h:NestAt v B K A n L) (hin:InnerOk v A n) (hi:i<n):WinOk noT ws v (inWin K v A L i):=by
 obtain ⟨b,off,Ai,ci,rfl,h1,h2,h3,h4,h5,h6⟩:=inner_is h hin hi;unfold inWin;rw [h2];by_cases e:ci=0
 ·rw [if_pos (show inC (.slice Ai (rowN L i) ci)=0 from e)]
  intro hl;cases hl
 ·rw [if_neg (show ¬ inC (.slice Ai (rowN L i) ci)=0 from e)]
  exact winOf_ok (h6.resolve_left e) h3
theorem vr_inner (h:NestAt v B K A n L) (hin:InnerOk v A n) (hws:∀ i,i<n→ws[base+i]?=some (inWin K v A L i)) (hi:i<n):VR (gctx noT ws) (lR ws) (inVal base v A L i) (innV v A i):=by
 obtain ⟨b,off,Ai,ci,rfl,h1,h2,h3,h4,h5,h6⟩:=inner_is h hin hi;have hw:=hws i hi;unfold inWin at hw;unfold inVal;rw [h2] at hw ⊢;by_cases e:ci=0
 ·rw [if_pos (show inC (.slice Ai (rowN L i) ci)=0 from e)]
  have e2:rowN L i=0:=by omega
  rw [e2,e];show VR _ _ (.slice Ai 0 0) (.slice Ai 0 0)
  cases Ai with
  | none=>exact .sl0 0 0
  | some a=>exact .slE a a
 ·rw [if_neg (show ¬ inC (.slice Ai (rowN L i) ci)=0 from e)] at hw ⊢
  exact vr_slice (h6.resolve_left e) hw
theorem outWin_ok (hat:AtCells v A) (h:NestAt v B K A n L) (hin:InnerOk v A n) (hws:∀ i,i<n→ws[base+i]?=some (inWin K v A L i)):WinOk noT ws v (outWin base v A n L):=by
 cases A with
 | none=>intro hl; cases hl
 | some a =>
  intro _;obtain ⟨hs,cc,t,z,hh⟩:=hat a rfl;refine ⟨cc,t,z,hh,fun k u hu => ?_⟩;have hk:k<n:=by
   have:=(Array.getElem?_eq_some_iff.1 hu).1;simpa [outWin] using this
  have hu':u=inVal base v (some a) L k:=by
   simp [outWin,hk] at hu;exact hu.symm
  subst hu';obtain ⟨b,off,Ai,ci,ea,h1,h2,_⟩:=inner_is h hin hk;cases ea;have h1':=h1;simp only [World.cell?,hh,Option.isSome_none,Bool.false_eq_true,if_false] at h1';refine ⟨_,by rw [Nat.add_comm]; exact h1',?_⟩;rw [← h2];exact vr_inner h hin hws hk
theorem vr_out (hat:AtCells v A) (hi:ws[o]?=some (outWin base v A n L)):VR (gctx noT ws) (lR ws) (.slice (lA A o) n c) (.slice A n c):=by
 cases A with
 | none=>exact .sl0 _ _
 | some a =>
  refine .sl _ _ ⟨⟨o,_,hi,rfl,rfl,rfl⟩,?_,(hat a rfl).1⟩;have hlt:=(List.getElem?_eq_some_iff.1 hi).1;show a.off=0+(if Tryz.prog.globals.size≤Tryz.prog.globals.size+o∧Tryz.prog.globals.size+o<Tryz.prog.globals.size+ws.length then ((ws[Tryz.prog.globals.size+o - Tryz.prog.globals.size]?).map (·.off)).getD 0 else 0)
  rw [if_pos ⟨by omega,by omega⟩,Nat.add_sub_cancel_left,hi];simp [outWin]
theorem lone_nest (h:NestAt v B K A n L) (hin:InnerOk v A n) (ho:ws[o]?=some (outWin base v A n L)) (hws:∀ i,i<n→ws[base+i]?=some (inWin K v A L i)) (t:Tp) (d:Nat) :
  NestAt ((lworld noT ws v).tp t d) ((lworld noT ws v).tp t d).heap.size K (lA A o) n L:=by
 refine ⟨h.1,fun hn => ?_⟩;obtain ⟨b,off,rfl,_,_⟩:=h.2 hn;refine ⟨Tryz.prog.globals.size+o,0,rfl,?_,fun i hi => ?_⟩
 ·show _<(lworld noT ws v).heap.size
  rw [l_size];have:=(List.getElem?_eq_some_iff.1 ho).1;omega
 ·obtain ⟨b',off',Ai,ci,ea,h1,h2,h3,h4,h5,h6⟩:=inner_is h hin hi
  have hcell:((lworld noT ws v).tp t d).cell? ⟨Tryz.prog.globals.size+o,0+i,none⟩=some (inVal base v (some ⟨b,off,none⟩) L i):=by
   show (match (lworld noT ws v).heap[Tryz.prog.globals.size+o]? with | some (.cells c _ _)=>c[0+i]? | _=>none)=_
   rw [l_at ho];simp [outWin,hi]
  have hw:=hws i hi;rw [hcell];unfold inWin at hw;unfold inVal;rw [h2] at hw ⊢;by_cases e:ci=0
  ·rw [if_pos (show inC (.slice Ai (rowN L i) ci)=0 from e)]
   have e2:rowN L i=0:=by omega
   rw [e2];refine ⟨Ai,0,rfl,⟨by have:=h3.1; rw [e2] at this; exact this,fun h0=>absurd h0 (by omega)⟩,Nat.le_refl _,Nat.zero_le _⟩
  ·rw [if_neg (show ¬ inC (.slice Ai (rowN L i) ci)=0 from e)] at hw ⊢
   exact ⟨_,_,rfl,lone_recs h3 hw t d,h4,h5⟩
end
noncomputable def vWins (v:World) (A:Option Addr) (n:Nat) (L:List (Nat × List Int)) (B:Option Addr) (q:Nat) (M:List (Nat × List Int)):List Win :=
 outWin 2 v A n L :: outWin (2+n) v B q M :: ((List.range n).map (inWin 4 v A L) ++ (List.range q).map (inWin 3 v B M))
section
variable {noT : TypeId} {v : World} {A B : Option Addr} {n q C : Nat} {L M : List (Nat × List Int)}
theorem vWins_in {i:Nat} (hi:i<n):(vWins v A n L B q M)[2+i]?=some (inWin 4 v A L i):=by
 unfold vWins;rw [show 2+i=i+1+1 by omega,List.getElem?_cons_succ,List.getElem?_cons_succ,List.getElem?_append_left (by simpa using hi)];simp [hi]
theorem vWins_in2 {j:Nat} (hj:j<q):(vWins v A n L B q M)[2+n+j]?=some (inWin 3 v B M j):=by
 unfold vWins;rw [show 2+n+j=(n+j)+1+1 by omega,List.getElem?_cons_succ,List.getElem?_cons_succ,List.getElem?_append_right (by simp)];simp [hj]
theorem vWins_ok (ha:AtCells v A) (hb:AtCells v B) (h:NestAt v C 4 A n L) (hin:InnerOk v A n) (h':NestAt v C 3 B q M) (hin':InnerOk v B q):WinsOk noT (vWins v A n L B q M) v:=by
 refine winsOk_nil.2 fun x hx => ?_
 unfold vWins at hx;simp only [List.mem_cons,List.mem_append,List.mem_map,List.mem_range] at hx;rcases hx with rfl | rfl | ⟨i,hi,rfl⟩ | ⟨i,hi,rfl⟩
 ·exact outWin_ok ha h hin fun i hi=>vWins_in hi
 ·exact outWin_ok hb h' hin' fun i hi=>vWins_in2 hi
 ·exact inWin_ok h hin hi
 ·exact inWin_ok h' hin' hi
end
end Rn
end Go.Proofs.YtjcgklifabcfkaaGreat
section
namespace Go.Proofs.Tryzx
theorem ntmps6:Tryz.f6.ntmps=40:=Tryz.ntmps6
theorem ntmps7:Tryz.f7.ntmps=18:=Tryz.ntmps7
theorem ntmps9:Tryz.f9.ntmps=13:=Tryz.ntmps9
theorem ntmps11:Tryz.f11.ntmps=17:=Tryz.ntmps11
theorem ntmps28:Tryz.f28.ntmps=27:=Tryz.ntmps28
theorem ntmps29:Tryz.f29.ntmps=27:=Tryz.ntmps29
theorem ntmps31:Tryz.f31.ntmps=23:=Tryz.ntmps31
theorem ntmps32:Tryz.f32.ntmps=23:=Tryz.ntmps32
theorem ntmps33:Tryz.f33.ntmps=27:=Tryz.ntmps33
theorem ntmps34:Tryz.f34.ntmps=27:=Tryz.ntmps34
theorem ntmps50:Tryz.f50.ntmps=12:=Tryz.ntmps50
theorem ntmps51:Tryz.f51.ntmps=12:=Tryz.ntmps51
theorem ntmps54:Tryz.f54.ntmps=9:=Tryz.ntmps54
theorem ntmps55:Tryz.f55.ntmps=23:=Tryz.ntmps55
theorem ntmps56:Tryz.f56.ntmps=11:=Tryz.ntmps56
theorem ntmps57:Tryz.f57.ntmps=27:=Tryz.ntmps57
theorem ntmps78:Tryz.f78.ntmps=12:=Tryz.ntmps78
theorem ntmps80:Tryz.f80.ntmps=23:=Tryz.ntmps80
theorem ntmps81:Tryz.f81.ntmps=14:=Tryz.ntmps81
theorem ntmps82:Tryz.f82.ntmps=27:=Tryz.ntmps82
theorem ntmps83:Tryz.f83.ntmps=20:=Tryz.ntmps83
theorem ntmps102:Tryz.f102.ntmps=13:=Tryz.ntmps102
theorem ntmps103:Tryz.f103.ntmps=17:=Tryz.ntmps103
theorem ntmps122:Tryz.f122.ntmps=11:=Tryz.ntmps122
theorem ntmps123:Tryz.f123.ntmps=15:=Tryz.ntmps123
end Go.Proofs.Tryzx
end
namespace Go.Proofs.YtjcgklifabcfkaaGreat
namespace X
open Go.RowKit
set_option maxHeartbeats 400000 in
theorem toPoint_any (x0 x1:Int) (w:World):Calls Tryzx.prog 122 #[.agg #[.int .i64 x0,.int .i64 x1]] w fun e w'=>e = .returned (.agg #[.int .i64 x0,.int .i64 x1])∧Below w.heap.size w w':=by
 go_enter Tryzx.func122,Tryz.ntmps122;go_wp2;exact bodyPost_ret (v := .agg #[.int .i64 x0,.int .i64 x1]) (by simp [results,Tryz.results122,go_sem]) rfl ⟨rfl,(((Below.refl _ _).alloc (Nat.le_refl _) _).alloc (by simp) _).alloc (by simp; omega) _⟩
end X
namespace X
open Go.RowKit
theorem infoJoint:(Tryzx.prog.info? 110).map (fun i=>(i.zero,i.size,i.bytes))=some (some (.agg #[.int .i64 0,.int .i64 0,.int .i64 0,.int .i64 0]),4,32):=by kernel_rfl
set_option maxHeartbeats 400000 in
theorem toJoint_any (x0 x1 x2 x3:Int) (w:World):Calls Tryzx.prog 102 #[.agg #[.int .i64 x0,.int .i64 x1,.int .i64 x2,.int .i64 x3]] w fun e w'=>e = .returned (.agg #[.int .i64 x0,.int .i64 x1,.int .i64 x2,.int .i64 x3])∧Below w.heap.size w w':=by
 go_enter Tryzx.func102,Tryz.ntmps102;go_wp2_with fail
 refine (toPoint_any _ _ _).mono ?_;rintro e w1 ⟨rfl,hb1⟩;have hz1:=hb1.size;simp at hz1;have ra:RowF w1 w.heap.size 144 4 (ints [x0,x1,x2,x3]):=(((RowF.of_row (World.rowIs_alloc w #[.int .i64 x0,.int .i64 x1,.int .i64 x2,.int .i64 x3] _ _ (fun j hj=>by simp at hj; match j,hj with | 0,_=>rfl | 1,_=>rfl | 2,_=>rfl | 3,_=>rfl))).alloc _).alloc _).after hb1
 have rr:RowF w1 (w.heap.size+1) 110 4 (ints [0,0,0,0]):=by
  have h:=((RowF.of_row (World.rowIs_alloc (w.alloc (.cells #[.int .i64 x0,.int .i64 x1,.int .i64 x2,.int .i64 x3] 144)) #[.int .i64 0,.int .i64 0,.int .i64 0,.int .i64 0] 110 (ints [0,0,0,0]) (fun j hj=>by simp at hj; match j,hj with | 0,_=>rfl | 1,_=>rfl | 2,_=>rfl | 3,_=>rfl))).alloc (.cells #[.int .i64 0,.int .i64 0,.int .i64 0,.int .i64 0] 110)).after hb1
  simpa using h
 have ro:RowF w1 (w.heap.size+1+1) 110 4 (ints [0,0,0,0]):=by
  have h:=(RowF.of_row (World.rowIs_alloc ((w.alloc (.cells #[.int .i64 x0,.int .i64 x1,.int .i64 x2,.int .i64 x3] 144)).alloc (.cells #[.int .i64 0,.int .i64 0,.int .i64 0,.int .i64 0] 110)) #[.int .i64 0,.int .i64 0,.int .i64 0,.int .i64 0] 110 (ints [0,0,0,0]) (fun j hj=>by simp at hj; match j,hj with | 0,_=>rfl | 1,_=>rfl | 2,_=>rfl | 3,_=>rfl))).after hb1
  simpa using h
 have a2:w1.cell? ⟨w.heap.size,2,none⟩=some (.int .i64 x2):=ra.cell (by omega);have a3:w1.cell? ⟨w.heap.size,3,none⟩=some (.int .i64 x3):=ra.cell (by omega);have o0:w1.cell? ⟨w.heap.size+1+1,0,none⟩=some (.int .i64 0):=ro.cell (by omega);have o1:w1.cell? ⟨w.heap.size+1+1,1,none⟩=some (.int .i64 0):=ro.cell (by omega);have f0:=ro.frozen 0;have f1:=ro.frozen 1;have HB1:=Lib.hid ((((Below.refl _ w).alloc (Nat.le_refl _) _).alloc (by simp) _).alloc (by simp; omega) _ |>.trans (hb1.mono (by simp; omega)))
 have ro2:=(ro.set 0 (.int .i64 x0)).set 1 (.int .i64 x1);have rr2:RowF ((w1.setCell ⟨w.heap.size+1+1,0,none⟩ (.int .i64 x0)).setCell ⟨w.heap.size+1+1,1,none⟩ (.int .i64 x1)) (w.heap.size+1) 110 4 (ints [0,0,0,0]):=(rr.set_other (by simp) _).set_other (by simp) _;clear hb1;go_wp2_with fail
 refine (toPoint_any _ _ _).mono ?_;rintro e w2 ⟨rfl,hb2⟩;have hz2:=hb2.size;simp at hz2;have s:=ro2.after hb2;have r:=rr2.after hb2;have HB2:=Lib.hid (((HB1.out.setCell (p:=⟨w.heap.size+1+1,0,none⟩) (by simp; omega) _).setCell (p:=⟨w.heap.size+1+1,1,none⟩) (by simp; omega) _).trans (hb2.mono (by simp; omega)))
 have s0:w2.cell? ⟨w.heap.size+1+1,0,none⟩=some (.int .i64 x0):=s.cell (by omega);have s1:w2.cell? ⟨w.heap.size+1+1,1,none⟩=some (.int .i64 x1):=s.cell (by omega);have s2:w2.cell? ⟨w.heap.size+1+1,2,none⟩=some (.int .i64 0):=s.cell (by omega);have s3:w2.cell? ⟨w.heap.size+1+1,3,none⟩=some (.int .i64 0):=s.cell (by omega);have g2:=s.frozen 2;have g3:=s.frozen 3;have r0:w2.cell? ⟨w.heap.size+1,0,none⟩=some (.int .i64 0):=r.cell (by omega);have r1:w2.cell? ⟨w.heap.size+1,1,none⟩=some (.int .i64 0):=r.cell (by omega);have r2:w2.cell? ⟨w.heap.size+1,2,none⟩=some (.int .i64 0):=r.cell (by omega);have r3:w2.cell? ⟨w.heap.size+1,3,none⟩=some (.int .i64 0):=r.cell (by omega);have k0:=r.frozen 0;have k1:=r.frozen 1;have k2:=r.frozen 2;have k3:=r.frozen 3;clear hb2 ro2 rr2 s r ra rr ro a2 a3 o0 o1 f0 f1;go_wp2;refine bodyPost_ret (v := .agg #[.int .i64 x0,.int .i64 x1,.int .i64 x2,.int .i64 x3]) (by simp [results,Tryz.results102,go_sem, *]) rfl ⟨rfl,?_⟩;exact (((((HB2.out.setCell (p:=⟨w.heap.size+1+1,2,none⟩) (by simp; omega) _).setCell (p:=⟨w.heap.size+1+1,3,none⟩) (by simp; omega) _).setCell (p:=⟨w.heap.size+1,0,none⟩) (by simp) _).setCell (p:=⟨w.heap.size+1,1,none⟩) (by simp) _).setCell (p:=⟨w.heap.size+1,2,none⟩) (by simp) _).setCell (p:=⟨w.heap.size+1,3,none⟩) (by simp) _
set_option maxHeartbeats 800000 in
theorem toJointS_any (A:Option Addr) (n c:Nat) (zs:List Int) (w:World) (h:RecsAt w w.heap.size 4 A n zs) (hn:n≤1048576) :
  Calls Tryzx.prog 80 #[.slice A n c] w fun e w'=>e = .returned (.slice (some ⟨w.heap.size,0,none⟩) n n)∧w'.rowIs w.heap.size 110 (n*4) (ints zs)∧Below w.heap.size w w':=by
 have H:=Lib.hid h;clear h;have hmk:=fun W=>run_make_recs (P:=Tryzx.prog) 43 110 4 32 #[.int .i64 0,.int .i64 0,.int .i64 0,.int .i64 0] Tryzx.underlying43 infoJoint n (by omega) hn W
 go_enter Tryzx.func80,Tryz.ntmps80;go_wp2;clear hmk;go_loopw [4] (fun i wr=>∃ k:Nat,k≤n∧i = .int .i64 k∧wr.rowIs w.heap.size 110 (n*4) (fill zs (k*4))∧Below w.heap.size w wr) (fun i _=>n - (intOf i).toNat)
 case atStart=>exact ⟨0,Nat.zero_le _,rfl,by rw [Nat.zero_mul]; exact rowIs_made0 w _ _ _ (fun j hj=>by simp at hj; match j,hj with | 0,_=>rfl | 1,_=>rfl | 2,_=>rfl | 3,_=>rfl) (by simp) zs,(Below.refl _ _).alloc (Nat.le_refl _) _⟩
 case round =>
  obtain ⟨k,hk,rfl,hrow,hb⟩:=hrel;by_cases hlt:k<n
  ·obtain ⟨b,off,rfl,hbB,hc⟩:=H.out.2 (by omega)
   have hgl:=hrow.lt;have hx0:wr.cell? ⟨b,off+k*4,none⟩=some (.int .i64 (nth zs (k*4))):=(hb.cell (by exact hbB)).trans (hc (k*4) (by omega));have hx1:wr.cell? ⟨b,off+k*4+1,none⟩=some (.int .i64 (nth zs (k*4+1))):=(hb.cell (by exact hbB)).trans (by have:=hc (k*4+1) (by omega); rwa [← Nat.add_assoc] at this)
   have hx2:wr.cell? ⟨b,off+k*4+2,none⟩=some (.int .i64 (nth zs (k*4+2))):=(hb.cell (by exact hbB)).trans (by have:=hc (k*4+2) (by omega); rwa [← Nat.add_assoc] at this)
   have hx3:wr.cell? ⟨b,off+k*4+3,none⟩=some (.int .i64 (nth zs (k*4+3))):=(hb.cell (by exact hbB)).trans (by have:=hc (k*4+3) (by omega); rwa [← Nat.add_assoc] at this)
   have HR:=Lib.hid hrow;have HB:=Lib.hid hb;clear hrow hb hc;go_wp2_with fail
   refine (toJoint_any _ _ _ _ _).mono ?_;rintro e w1 ⟨rfl,hb1⟩;have HR1:=Lib.hid (below_row hb1 HR.out hgl);have HB1:=Lib.hid (HB.out.trans (hb1.mono HB.out.size));clear hb1;have hy0:w1.cell? ⟨w.heap.size,k*4,none⟩=some (.int .i64 0):=by rw [HR1.out.cell (by omega),fill_at zs (by omega)]
   have hf0:w1.frozen? ⟨w.heap.size,k*4,none⟩=false:=HR1.out.frozen _;have hy1:w1.cell? ⟨w.heap.size,k*4+1,none⟩=some (.int .i64 0):=by rw [HR1.out.cell (by omega),fill_at zs (by omega)]
   have hf1:w1.frozen? ⟨w.heap.size,k*4+1,none⟩=false:=HR1.out.frozen _;have hy2:w1.cell? ⟨w.heap.size,k*4+2,none⟩=some (.int .i64 0):=by rw [HR1.out.cell (by omega),fill_at zs (by omega)]
   have hf2:w1.frozen? ⟨w.heap.size,k*4+2,none⟩=false:=HR1.out.frozen _;have hy3:w1.cell? ⟨w.heap.size,k*4+3,none⟩=some (.int .i64 0):=by rw [HR1.out.cell (by omega),fill_at zs (by omega)]
   have hf3:w1.frozen? ⟨w.heap.size,k*4+3,none⟩=false:=HR1.out.frozen _;go_wp2;go_roundw
   case rel=>exact ⟨k+1,by omega,by go_num,by rw [Nat.add_mul,Nat.one_mul]; exact World.rowIs.congr (World.rowIs.set (World.rowIs.set (World.rowIs.set (World.rowIs.set HR1.out (k*4) _) (k*4+1) _) (k*4+2) _) (k*4+3) _) (fun j _=>fill_step4 zs (k*4) j),((((HB1.out.setCell (Nat.le_refl _) _).setCell (Nat.le_refl _) _).setCell (Nat.le_refl _) _).setCell (Nat.le_refl _) _)⟩
   case measure=>simp [intOf]; omega
  ·have hkn:k=n:=by omega
   subst hkn;have HR:=Lib.hid hrow;have HB:=Lib.hid hb;clear hrow hb;go_wp2;go_ret;exact ⟨rfl,HR.out.congr (fun j hj=>fill_end zs hj),HB.out⟩
theorem szJointS_ok (A:Option Addr) (n c:Nat) (l:Int) (w:World) (h0:0≤l) (h1:l≤1048576) (hn:n≤9223372036854775807) (h:(n:Int)≤l):Calls Tryzx.prog 78 #[.slice A n c,.int .i64 l] w fun e w'=>e = .returned (.int .i64 (l - n))∧w=w':=by
 have ht:¬ l - (n:Int)<0:=by omega
 go_enter Tryzx.func78,Tryz.ntmps78;go_wp2;go_ret;exact ⟨rfl,rfl⟩
theorem szJointS_no (A:Option Addr) (n c:Nat) (l:Int) (w:World) (h0:0≤l) (h1:l≤1048576) (hn:n≤9223372036854775807) (h:l<(n:Int)):Calls Tryzx.prog 78 #[.slice A n c,.int .i64 l] w fun e w'=>e = .returned (.int .i64 (-1))∧w=w':=by
 have ht:l - (n:Int)<0:=by omega
 go_enter Tryzx.func78,Tryz.ntmps78;go_wp2;go_ret;exact ⟨rfl,rfl⟩
set_option maxHeartbeats 400000 in
theorem eqJoint_same (x0 x1 x2 x3:Int) (w:World):Calls Tryzx.prog 103 #[.agg #[.int .i64 x0,.int .i64 x1,.int .i64 x2,.int .i64 x3],.agg #[.int .i64 x0,.int .i64 x1,.int .i64 x2,.int .i64 x3]] w fun e w'=>e = .returned (.bool true)∧Below w.heap.size w w':=by
 have t0:(x0 != x0)=false:=by simp
 have t1:(x1 != x1)=false:=by simp
 have t2:(x2 != x2)=false:=by simp
 have t3:(x3 != x3)=false:=by simp
 go_enter Tryzx.func103,Tryz.ntmps103;go_wp2;go_ret;exact ⟨rfl,((((((Below.refl _ _).alloc (Nat.le_refl _) _).alloc (by simp) _).alloc (by simp; omega) _).alloc (by simp; omega) _).alloc (by simp; omega) _).alloc (by simp; omega) _⟩
set_option maxHeartbeats 800000 in
theorem eqJointS_same (A A':Option Addr) (n c c':Nat) (zs:List Int) (w:World) (hx:RecsAt w w.heap.size 4 A n zs) (hy:RecsAt w w.heap.size 4 A' n zs) (hn:n≤1048576) :
  Calls Tryzx.prog 82 #[.slice A n c,.slice A' n c'] w fun e w'=>e = .returned (.bool true)∧Below w.heap.size w w':=by
 have HX:=Lib.hid hx;have HY:=Lib.hid hy;clear hx hy;have ht:((n:Int) != (n:Int))=false:=by simp
 go_enter Tryzx.func82,Tryz.ntmps82;go_wp2;go_loopw [5] (fun i wr=>∃ k:Nat,k≤n∧i = .int .i64 k∧Below w.heap.size w wr) (fun i _=>n - (intOf i).toNat)
 case atStart=>exact ⟨0,Nat.zero_le _,rfl,Below.refl _ _⟩
 case round =>
  obtain ⟨k,hk,rfl,hb⟩:=hrel;have HB:=Lib.hid hb;by_cases hlt:k<n
  ·obtain ⟨b,off,rfl,hbB,hc⟩:=HX.out.2 (by omega)
   obtain ⟨b',off',rfl,hbB',hc'⟩:=HY.out.2 (by omega);have hz:=hb.size;have cx0:wr.cell? ⟨b,off+k*4,none⟩=some (.int .i64 (nth zs (k*4))):=(hb.cell (by exact hbB)).trans (hc (k*4) (by omega));have cy0:wr.cell? ⟨b',off'+k*4,none⟩=some (.int .i64 (nth zs (k*4))):=(hb.cell (by exact hbB')).trans (hc' (k*4) (by omega));have cx1:wr.cell? ⟨b,off+k*4+1,none⟩=some (.int .i64 (nth zs (k*4+1))):=(hb.cell (by exact hbB)).trans (by have:=hc (k*4+1) (by omega); rwa [← Nat.add_assoc] at this)
   have cy1:wr.cell? ⟨b',off'+k*4+1,none⟩=some (.int .i64 (nth zs (k*4+1))):=(hb.cell (by exact hbB')).trans (by have:=hc' (k*4+1) (by omega); rwa [← Nat.add_assoc] at this)
   have cx2:wr.cell? ⟨b,off+k*4+2,none⟩=some (.int .i64 (nth zs (k*4+2))):=(hb.cell (by exact hbB)).trans (by have:=hc (k*4+2) (by omega); rwa [← Nat.add_assoc] at this)
   have cy2:wr.cell? ⟨b',off'+k*4+2,none⟩=some (.int .i64 (nth zs (k*4+2))):=(hb.cell (by exact hbB')).trans (by have:=hc' (k*4+2) (by omega); rwa [← Nat.add_assoc] at this)
   have cx3:wr.cell? ⟨b,off+k*4+3,none⟩=some (.int .i64 (nth zs (k*4+3))):=(hb.cell (by exact hbB)).trans (by have:=hc (k*4+3) (by omega); rwa [← Nat.add_assoc] at this)
   have cy3:wr.cell? ⟨b',off'+k*4+3,none⟩=some (.int .i64 (nth zs (k*4+3))):=(hb.cell (by exact hbB')).trans (by have:=hc' (k*4+3) (by omega); rwa [← Nat.add_assoc] at this)
   generalize nth zs (k*4)=u0 at *
   generalize nth zs (k*4+1)=u1 at *
   generalize nth zs (k*4+2)=u2 at *
   generalize nth zs (k*4+3)=u3 at *
   have ki:(k:Int)<(n:Int):=by omega
   have k0:(0:Int)≤(k:Int):=by omega
   clear hc hc' hb;go_wp2;go_region_held3 (fun w'=>w'.cell? ⟨b,off+k*4,none⟩=some (.int .i64 u0)∧w'.cell? ⟨b,off+k*4+1,none⟩=some (.int .i64 u1)∧w'.cell? ⟨b,off+k*4+2,none⟩=some (.int .i64 u2)∧w'.cell? ⟨b,off+k*4+3,none⟩=some (.int .i64 u3)∧w'.cell? ⟨b',off'+k*4,none⟩=some (.int .i64 u0)∧w'.cell? ⟨b',off'+k*4+1,none⟩=some (.int .i64 u1)∧w'.cell? ⟨b',off'+k*4+2,none⟩=some (.int .i64 u2)∧w'.cell? ⟨b',off'+k*4+3,none⟩=some (.int .i64 u3)) (first | (go_keep; done) | (refine ⟨?_,?_,?_,?_,?_,?_,?_,?_⟩ <;> (rw [hcc _ _ (by simp <;> omega)]; go_keep))) ((go_at_call 103; refine (eqJoint_same _ _ _ _ _).mono ?_; rintro e w1 ⟨rfl,hb1⟩; obtain ⟨hcc,hff⟩:=bcell hb1));have HB1:=Lib.hid (HB.out.drew.trans (hb1.mono (by have:=HB.out.size; simp; omega)))
   clear hcc hff hb1;go_wp2;go_roundw
   case rel=>exact ⟨k+1,by omega,by go_num,HB1.out⟩
   case measure=>simp [intOf]; omega
  ·have hkn:k=n:=by omega
   subst hkn;clear hb;go_wp2;go_ret;exact ⟨rfl,HB.out⟩
end X
namespace X
open Go.RowKit
theorem toArch_any (A:Option Addr) (n c:Nat) (zs:List Int) (w:World) (h:RecsAt w w.heap.size 4 A n zs) (hn:n≤1048576) :
  Calls Tryzx.prog 54 #[.agg #[.slice A n c]] w fun e w'=>∃ g,e = .returned (.agg #[.slice (some ⟨g,0,none⟩) n n])∧w.heap.size≤g∧w'.rowIs g 110 (n*4) (ints zs)∧Below w.heap.size w w':=by
 have H3:RecsAt (((w.alloc (.cells #[.slice A n c] 83)).alloc (.cells #[.slice none 0 0] 45)).alloc (.cells #[.slice none 0 0] 45)) (((w.alloc (.cells #[.slice A n c] 83)).alloc (.cells #[.slice none 0 0] 45)).alloc (.cells #[.slice none 0 0] 45)).heap.size 4 A n zs :=
  (((h.alloc (Nat.le_refl _) _).alloc (by simp) _).alloc (by simp; omega) _).mono (by simp; omega)
 go_enter Tryzx.func54,Tryz.ntmps54;go_wp2_with fail
 refine (toJointS_any _ _ _ zs _ H3 hn).mono ?_;rintro e w1 ⟨rfl,r1,hb1⟩;have rr:RowF w1 (w.heap.size+1) 45 1 (fun _ => .slice none 0 0):=by
  have h:=((RowF.of_row (World.rowIs_alloc (w.alloc (.cells #[.slice A n c] 83)) #[.slice none 0 0] 45 (fun _ => .slice none 0 0) (fun j hj=>by simp at hj; subst hj; rfl))).alloc (.cells #[.slice none 0 0] 45)).after hb1
  simpa using h
 have ro:RowF w1 (w.heap.size+1+1) 45 1 (fun _ => .slice none 0 0):=by
  have h:=(RowF.of_row (World.rowIs_alloc ((w.alloc (.cells #[.slice A n c] 83)).alloc (.cells #[.slice none 0 0] 45)) #[.slice none 0 0] 45 (fun _ => .slice none 0 0) (fun j hj=>by simp at hj; subst hj; rfl))).after hb1
  simpa using h
 have e1:=rr.cell (i:=0) (by omega);have e2:=ro.cell (i:=0) (by omega);have f1:=rr.frozen 0;have f2:=ro.frozen 0;have HB1:=Lib.hid (((((Below.refl _ w).alloc (Nat.le_refl _) _).alloc (by simp) _).alloc (by simp; omega) _).trans (hb1.mono (by simp; omega)))
 have HR:=Lib.hid r1;clear r1 hb1 rr ro H3;go_wp2;refine bodyPost_ret (v := .agg #[.slice (some ⟨w.heap.size+1+1+1,0,none⟩) n n]) (by simp [results,Tryz.results54,go_sem, *]) rfl ⟨w.heap.size+1+1+1,rfl,by omega,?_,?_⟩
 ·have h:=HR.out
  simp at h;exact (h.of_block (Below.heap_setCell _ _ _ _ (by simp <;> omega))).of_block (Below.heap_setCell _ _ _ _ (by simp <;> omega))
 ·exact (HB1.out.setCell (p:=⟨w.heap.size+1+1,0,none⟩) (by simp; omega) _).setCell (p:=⟨w.heap.size+1,0,none⟩) (by simp) _
theorem szArch_ok (A:Option Addr) (n c:Nat) (l:Int) (w:World) (h0:0≤l) (h1:l≤1048576) (hn:n≤9223372036854775807) (h:(n:Int)≤l):Calls Tryzx.prog 50 #[.agg #[.slice A n c],.int .i64 l] w fun e w'=>e = .returned (.int .i64 (l - n))∧Below w.heap.size w w':=by
 have ht:¬ l - (n:Int)<0:=by omega
 go_enter Tryzx.func50,Tryz.ntmps50;go_wp2_with (go_at_call 78; refine (szJointS_ok _ _ _ _ _ h0 h1 hn h).mono ?_; rintro e w' ⟨rfl,rfl⟩);go_ret;exact ⟨rfl,(Below.refl _ _).alloc (Nat.le_refl _) _⟩
theorem szArch_no (A:Option Addr) (n c:Nat) (l:Int) (w:World) (h0:0≤l) (h1:l≤1048576) (hn:n≤9223372036854775807) (h:l<(n:Int)):Calls Tryzx.prog 50 #[.agg #[.slice A n c],.int .i64 l] w fun e w'=>e = .returned (.int .i64 (-1))∧Below w.heap.size w w':=by
 go_enter Tryzx.func50,Tryz.ntmps50;go_wp2_with (go_at_call 78; refine (szJointS_no _ _ _ _ _ h0 h1 hn h).mono ?_; rintro e w' ⟨rfl,rfl⟩);go_ret;exact ⟨rfl,(Below.refl _ _).alloc (Nat.le_refl _) _⟩
theorem eqArch_same (A A':Option Addr) (n c c':Nat) (zs:List Int) (w:World) (hx:RecsAt w w.heap.size 4 A n zs) (hy:RecsAt w w.heap.size 4 A' n zs) (hn:n≤1048576) :
  Calls Tryzx.prog 56 #[.agg #[.slice A n c],.agg #[.slice A' n c']] w fun e w'=>e = .returned (.bool true)∧Below w.heap.size w w':=by
 have hx2:=((hx.alloc (Nat.le_refl _) (.cells #[.slice A n c] 45)).alloc (by simp) (.cells #[.slice A' n c'] 45)).mono (B':=((w.alloc (.cells #[.slice A n c] 45)).alloc (.cells #[.slice A' n c'] 45)).heap.size) (by simp; omega)
 have hy2:=((hy.alloc (Nat.le_refl _) (.cells #[.slice A n c] 45)).alloc (by simp) (.cells #[.slice A' n c'] 45)).mono (B':=((w.alloc (.cells #[.slice A n c] 45)).alloc (.cells #[.slice A' n c'] 45)).heap.size) (by simp; omega)
 go_enter Tryzx.func56,Tryz.ntmps56;go_wp2_with fail
 refine (eqJointS_same _ _ _ _ _ zs _ hx2 hy2 hn).mono ?_;rintro e w1 ⟨rfl,hb1⟩;go_wp2;go_ret;exact ⟨rfl,(((Below.refl _ w).alloc (Nat.le_refl _) _).alloc (by simp) _).trans (hb1.mono (by simp; omega))⟩
end X
section
open Go.RowKit
def filled (w:World) (g:Nat) (E:TypeId) (K:Nat) (f:Nat→Value) (L:List (Nat × List Int)) (i:Nat):Prop :=
 ∃ gi,f i = .slice (some ⟨gi,0,none⟩) (rowN L i) (rowN L i)∧g<gi∧w.rowIs gi E (rowN L i*K) (ints (rowZ L i))
def NestRow (w:World) (g:Nat) (T E:TypeId) (K n:Nat) (L:List (Nat × List Int)):Prop:=∃ f,w.rowIs g T n f∧∀ i,i<n→filled w g E K f L i
def NestTo (w:World) (g:Nat) (T E:TypeId) (K n:Nat) (L:List (Nat × List Int)) (k:Nat):Prop:=∃ f,w.rowIs g T n f∧(∀ i,i<k→filled w g E K f L i)∧∀ i,k≤i→f i = .slice none 0 0
section
variable {w w' : World} {g : Nat} {T E : TypeId} {K n k : Nat} {L : List (Nat × List Int)} {f f' : Nat → Value} {i : Nat}
theorem filled.after (h:filled w g E K f L i) (hb:Below w.heap.size w w'):filled w' g E K f L i:=by
 obtain ⟨gi,h1,h2,h3⟩:=h;exact ⟨gi,h1,h2,h3.of_block (hb.block gi h3.lt)⟩
theorem NestTo.after (h:NestTo w g T E K n L k) (hb:Below w.heap.size w w'):NestTo w' g T E K n L k:=by
 obtain ⟨f,h1,h2,h3⟩:=h;exact ⟨f,h1.of_block (hb.block g h1.lt),fun i hi=>(h2 i hi).after hb,h3⟩
theorem NestRow.after (h:NestRow w g T E K n L) (hb:Below w.heap.size w w'):NestRow w' g T E K n L:=by
 obtain ⟨f,h1,h2⟩:=h;exact ⟨f,h1.of_block (hb.block g h1.lt),fun i hi=>(h2 i hi).after hb⟩
theorem NestRow.lt (h:NestRow w g T E K n L):g<w.heap.size:=by
 obtain ⟨f,h1,_⟩:=h;exact h1.lt
theorem NestTo.cell (h:NestTo w g T E K n L k) (hk:k<n):w.cell? ⟨g,k,none⟩=some (.slice none 0 0):=by
 obtain ⟨f,h1,_,h3⟩:=h;rw [h1.cell hk,h3 k (Nat.le_refl _)]
theorem NestTo.frozen (h:NestTo w g T E K n L k) (j:Nat):w.frozen? ⟨g,j,none⟩=false:=by
 obtain ⟨f,h1,_,_⟩:=h;exact h1.frozen j
theorem NestTo.start (w:World) (T E:TypeId) (K n:Nat) (L:List (Nat × List Int)):NestTo (w.alloc (.cells (madeCells #[.slice none 0 0] n) T)) w.heap.size T E K n L 0 :=
 ⟨_,World.rowIs_made w (.slice none 0 0) n T,fun i hi=>absurd hi (by omega),fun _ _=>rfl⟩
theorem NestTo.step {gi:Nat} (h:NestTo w g T E K n L k) (hg:g<gi) (hr:w.rowIs gi E (rowN L k*K) (ints (rowZ L k))):NestTo (w.setCell ⟨g,k,none⟩ (.slice (some ⟨gi,0,none⟩) (rowN L k) (rowN L k))) g T E K n L (k+1):=by
 obtain ⟨f,h1,h2,h3⟩:=h;refine ⟨_,h1.set k _,fun i hi => ?_,fun i hi => ?_⟩
 ·by_cases hik:i=k
  ·subst hik
   exact ⟨gi,by simp,hg,hr.of_block (Below.heap_setCell _ _ _ _ (by simp; omega))⟩
  ·obtain ⟨gj,e1,e2,e3⟩:=h2 i (by omega)
   exact ⟨gj,by simp [hik,e1],e2,e3.of_block (Below.heap_setCell _ _ _ _ (by simp; omega))⟩
 ·have:i ≠ k:=by omega
  simp [this,h3 i (by omega)]
theorem NestTo.done (h:NestTo w g T E K n L n):NestRow w g T E K n L:=by
 obtain ⟨f,h1,h2,_⟩:=h;exact ⟨f,h1,h2⟩
theorem NestRow.nestAt (h:NestRow w g T E K n L) (hL:L.length=n) (hl:∀ i,i<n→(rowZ L i).length=rowN L i*K) (hr:∀ i,i<n→rowN L i≤1048576):NestAt w w.heap.size K (some ⟨g,0,none⟩) n L:=by
 obtain ⟨f,h1,h2⟩:=h;refine nestAt_row h1 hL fun i hi => ?_
 obtain ⟨gi,e1,e2,e3⟩:=h2 i hi;exact ⟨_,_,e1,recsAt_row e3 (hl i hi) (fun k _=>rfl),Nat.le_refl _,by have:=hr i hi; unfold maxLen; omega⟩
theorem NestAt.lens {B:Nat} {A:Option Addr} (h:NestAt w B K A n L):∀ i,i<n→(rowZ L i).length=rowN L i*K:=by
 intro i hi;obtain ⟨b,off,_,_,hc⟩:=h.2 (by omega);obtain ⟨_,_,_,hr,_⟩:=hc i hi;exact hr.1
end
theorem NestRow.set_lt {w:World} {g:Nat} {T E:TypeId} {K n:Nat} {L:List (Nat × List Int)} (h:NestRow w g T E K n L) {p:Addr} (hp:p.block<g) (v:Value):NestRow (w.setCell p v) g T E K n L:=by
 obtain ⟨f,h1,h2⟩:=h;refine ⟨f,h1.of_block (Below.heap_setCell _ _ _ _ (by omega)),fun i hi => ?_⟩;obtain ⟨gi,e1,e2,e3⟩:=h2 i hi;exact ⟨gi,e1,e2,e3.of_block (Below.heap_setCell _ _ _ _ (by omega))⟩
def sumN (L:List (Nat × List Int)):Nat→Nat
 | 0=>0
 | k+1=>sumN L k+rowN L k
def SzPost (l:Int) (n:Nat) (L:List (Nat × List Int)) (w:World) (e:Ending) (w':World):Prop :=
 ∃ r:Int,e = .returned (.int .i64 r)∧Below w.heap.size w w'∧(r = -1 ∨ (0≤r∧r≤l∧(n:Int)≤l∧(∀ i,i<n→(rowN L i:Int)≤l)∧(sumN L n:Int)≤l))
theorem szPost_no {l:Int} {n:Nat} {L:List (Nat × List Int)} {w w':World} (hb:Below w.heap.size w w'):SzPost l n L w (.returned (.int .i64 (-1))) w':=⟨-1,rfl,hb,.inl rfl⟩
theorem szPost_ok {l r:Int} {n:Nat} {L:List (Nat × List Int)} {w w':World} (hb:Below w.heap.size w w') (h0:0≤r) (h1:r≤l) (h2:(n:Int)≤l) (h3:∀ i,i<n→(rowN L i:Int)≤l) (h4:(sumN L n:Int)≤l):SzPost l n L w (.returned (.int .i64 r)) w':=⟨r,rfl,hb,.inr ⟨h0,h1,h2,h3,h4⟩⟩
end
section
open Go.RowKit
structure Within (lo hi:Nat) (w w':World):Prop where
 os:w'.os=w.os
 tape:w'.tape=w.tape
 output:w'.output=w.output
 size:w'.heap.size=w.heap.size
 block:∀ k,k<lo ∨ hi≤k→w'.heap[k]?=w.heap[k]?
section
variable {lo hi : Nat} {w w' w'' : World}
theorem Within.refl (lo hi:Nat) (w:World):Within lo hi w w:=⟨rfl,rfl,rfl,rfl,fun _ _=>rfl⟩
theorem Within.trans (h:Within lo hi w w') (h':Within lo hi w' w''):Within lo hi w w'':=⟨h'.os.trans h.os,h'.tape.trans h.tape,h'.output.trans h.output,h'.size.trans h.size,fun k hk=>(h'.block k hk).trans (h.block k hk)⟩
theorem Within.below (h:Within lo hi w w'):Below lo w w':=⟨h.os,h.tape,h.output,Nat.le_of_eq h.size.symm,fun k hk=>h.block k (.inl hk)⟩
theorem Within.row {g:Nat} {t:TypeId} {n:Nat} {f:Nat→Value} (h:Within lo hi w w') (hr:w.rowIs g t n f) (hg:g<lo ∨ hi≤g):w'.rowIs g t n f:=hr.of_block (h.block g hg)
theorem Within.own {base:Nat} {E:TypeId} {v:Value} {xs:List Int} (h:Within lo hi w w') (ho:OwnV w base E v xs) (hb:hi≤base):OwnV w' base E v xs:=by
 rcases ho.form with ⟨rfl,rfl⟩ | ⟨g',cap,rfl,hi'⟩
 ·exact OwnV.nil _ _ _
 ·refine ⟨hi'.1,?_⟩
  rcases hi'.2 with h2 | ⟨g'',cap',cur,h1,h2,h3,hr⟩
  ·exact .inl h2
  ·simp at h1
   obtain ⟨rfl,rfl⟩:=h1;exact .inr ⟨g',cap,cur,rfl,h2,(h.block g' (.inr (by omega))).trans h3,hr⟩
theorem Within.cell (h:Within lo hi w w') {p:Addr} (hp:p.block<lo ∨ hi≤p.block):w'.cell? p=w.cell? p:=World.cell?_of_block (w:=w) (h.block _ hp)
end
def RowI (w:World) (lo hi g:Nat) (E:TypeId) (m:Nat):Prop:=∃ f,w.rowIs g E m f∧IntRow f∧lo≤g∧g<hi
section
variable {w w' : World} {lo hi g : Nat} {E : TypeId} {m : Nat}
theorem RowI.of_row {f:Nat→Value} (h:w.rowIs g E m f) (hi':IntRow f) (h1:lo≤g) (h2:w.heap.size≤hi):RowI w lo hi g E m:=⟨f,h,hi',h1,Nat.lt_of_lt_of_le h.lt h2⟩
theorem RowI.after (h:RowI w lo hi g E m) (hb:Below w.heap.size w w'):RowI w' lo hi g E m:=by
 obtain ⟨f,h1,h2⟩:=h;exact ⟨f,h1.of_block (hb.block g h1.lt),h2⟩
end
def NestInts (w:World) (lo hi g:Nat) (T E:TypeId) (K n:Nat) (L:List (Nat × List Int)):Prop :=
 lo≤g∧∃ f,w.rowIs g T n f∧∀ i,i<n→∃ gi fi,f i = .slice (some ⟨gi,0,none⟩) (rowN L i) (rowN L i)∧g<gi∧gi<hi∧w.rowIs gi E (rowN L i*K) fi∧IntRow fi
section
variable {w w' : World} {lo hi g : Nat} {T E : TypeId} {K n : Nat} {L : List (Nat × List Int)}
theorem NestInts.of_row (h:NestRow w g T E K n L) (h1:lo≤g) (h2:w.heap.size≤hi):NestInts w lo hi g T E K n L:=by
 obtain ⟨f,hr,hf⟩:=h;refine ⟨h1,f,hr,fun i hi' => ?_⟩;obtain ⟨gi,e1,e2,e3⟩:=hf i hi';exact ⟨gi,_,e1,e2,Nat.lt_of_lt_of_le e3.lt h2,e3,intRow_ints _⟩
theorem NestInts.after (h:NestInts w lo hi g T E K n L) (hb:Below w.heap.size w w'):NestInts w' lo hi g T E K n L:=by
 obtain ⟨h1,f,hr,hf⟩:=h;refine ⟨h1,f,hr.of_block (hb.block g hr.lt),fun i hi' => ?_⟩;obtain ⟨gi,fi,e1,e2,e3,e4,e5⟩:=hf i hi';exact ⟨gi,fi,e1,e2,e3,e4.of_block (hb.block gi e4.lt),e5⟩
theorem rowIs_size {t:TypeId} {m m':Nat} {f f':Nat→Value} (h:w.rowIs g t m f) (h':w.rowIs g t m' f'):m=m':=by
 obtain ⟨c,hb,hn,_⟩:=h;obtain ⟨c',hb',hn',_⟩:=h';rw [hb] at hb';simp at hb';rw [← hn,← hn',hb']
theorem NestInts.only {gk m:Nat} {fk fk':Nat→Value} (h:NestInts w lo hi g T E K n L) (hg:g<gk) (ho:Only gk w w') (hr0:w.rowIs gk E m fk) (hr:w'.rowIs gk E m fk') (hk:IntRow fk'):NestInts w' lo hi g T E K n L:=by
 obtain ⟨h1,f,hrow,hf⟩:=h;refine ⟨h1,f,ho.row hrow (by omega),fun i hi' => ?_⟩;obtain ⟨gi,fi,e1,e2,e3,e4,e5⟩:=hf i hi';by_cases e:gi=gk
 ·subst e
  have:=rowIs_size e4 hr0;exact ⟨gi,fk',e1,e2,e3,by rw [this]; exact hr,hk⟩
 ·exact ⟨gi,fi,e1,e2,e3,ho.row e4 e,e5⟩
end
end
namespace X
open Go.RowKit
theorem infoArch:(Tryzx.prog.info? 45).map (fun i=>(i.zero,i.size,i.bytes))=some (some (.agg #[.slice none 0 0]),1,24):=by kernel_rfl
set_option maxHeartbeats 800000 in
theorem toArchS_any (A:Option Addr) (n c:Nat) (L:List (Nat × List Int)) (w:World) (h:NestAt w w.heap.size 4 A n L) (hn:n≤1048576) (hr:∀ i,i<n→rowN L i≤1048576) :
  Calls Tryzx.prog 31 #[.slice A n c] w fun e w'=>∃ g,e = .returned (.slice (some ⟨g,0,none⟩) n n)∧w.heap.size≤g∧NestRow w' g 45 110 4 n L∧Below w.heap.size w w':=by
 have H:=Lib.hid h;have HR:=Lib.hid hr;clear h hr;have hmk:=fun W=>run_make_recs (P:=Tryzx.prog) 28 45 1 24 #[.slice none 0 0] Tryzx.underlying28 infoArch n (by omega) hn W
 rw [Nat.mul_one] at hmk;go_enter Tryzx.func31,Tryz.ntmps31;go_wp2;clear hmk;go_loopw [4] (fun i wr=>∃ k:Nat,k≤n∧i = .int .i64 k∧NestTo wr w.heap.size 45 110 4 n L k∧Below w.heap.size w wr) (fun i _=>n - (intOf i).toNat)
 case atStart=>exact ⟨0,Nat.zero_le _,rfl,NestTo.start w _ _ _ _ _,(Below.refl _ _).alloc (Nat.le_refl _) _⟩
 case round =>
  obtain ⟨k,hk,rfl,hrow,hb⟩:=hrel;by_cases hlt:k<n
  ·obtain ⟨b,off,rfl,hbB,hc⟩:=H.out.2 (by omega)
   obtain ⟨Ak,ck,hx,hrec,_,_⟩:=hc k hlt;have hx0:wr.cell? ⟨b,off+k,none⟩=some (.slice Ak (rowN L k) ck):=(hb.cell (by exact hbB)).trans hx;have hrec':=(hrec.below hb).mono hb.size;have hrk:=HR.out k hlt;have hz:=hb.size;have HRW:=Lib.hid hrow;have HB:=Lib.hid hb;clear hrow hb hc hx hrec;go_wp2_with fail
   refine (toArch_any _ _ _ (rowZ L k) _ hrec' hrk).mono ?_;rintro e w1 ⟨gi,rfl,hgi,ri,hb1⟩;have hrow1:=HRW.out.after hb1;have hcy:=hrow1.cell hlt;have hfy:=hrow1.frozen k;have hlt1:w.heap.size<gi:=by have:=HRW.out; obtain ⟨f,h1,_⟩:=this; have:=h1.lt; omega
   have HS:=Lib.hid (hrow1.step hlt1 ri);have HB1:=Lib.hid ((HB.out.trans (hb1.mono hz)).setCell (p:=⟨w.heap.size,k,none⟩) (Nat.le_refl _) (.slice (some ⟨gi,0,none⟩) (rowN L k) (rowN L k)));clear hrow1 hb1 ri hrec';go_wp2;go_roundw
   case rel=>exact ⟨k+1,by omega,by go_num,HS.out,HB1.out⟩
   case measure=>simp [intOf]; omega
  ·obtain rfl:k=n:=by omega
   have HRW:=Lib.hid hrow.done;have HB:=Lib.hid hb;clear hrow hb;go_wp2;go_ret;exact ⟨_,rfl,Nat.le_refl _,HRW.out,HB.out⟩
set_option maxHeartbeats 800000 in
theorem szArchS_any (A:Option Addr) (n c:Nat) (L:List (Nat × List Int)) (l:Int) (w:World) (h:NestAt w w.heap.size 4 A n L) (hl0:0≤l) (hl1:l≤1048576) (hn:n≤9223372036854775807) :
  Calls Tryzx.prog 28 #[.slice A n c,.int .i64 l] w (SzPost l n L w):=by
 have H:=Lib.hid h;clear h;by_cases hnl:(n:Int)≤l
 ·have ht:¬ l - (n:Int)<0:=by omega
  go_enter Tryzx.func28,Tryz.ntmps28;go_wp2;go_loopw [1,5] (fun m i wr=>∃ (k:Nat) (r:Int),k≤n∧i = .int .i64 k∧m = .int .i64 r∧0≤r∧r+(sumN L k:Int)≤l∧Below w.heap.size w wr∧Hid (∀ i,i<k→(rowN L i:Int)≤l)) (fun _ i _=>n - (intOf i).toNat)
  case atStart=>exact ⟨0,_,Nat.zero_le _,rfl,rfl,by omega,by simp [sumN]; omega,Below.refl _ _,Lib.hid (fun i hi=>absurd hi (by omega))⟩
  case round =>
   obtain ⟨k,r,hk,rfl,rfl,hr0,hr1,hb,HA⟩:=hrel;have HB:=Lib.hid hb;by_cases hlt:k<n
   ·obtain ⟨b,off,rfl,hbB,hc⟩:=H.out.2 (by omega)
    obtain ⟨Ak,ck,hx,hrec,hcc,hcm⟩:=hc k hlt;have hx0:wr.cell? ⟨b,off+k,none⟩=some (.slice Ak (rowN L k) ck):=(hb.cell (by exact hbB)).trans hx;have hmx:rowN L k≤9223372036854775807:=by unfold maxLen at hcm; omega
    clear hc hx hrec hb;by_cases hle:(rowN L k:Int)≤r
    ·have ht2:¬ r - (rowN L k:Int)<0:=by omega
     have HA':=Lib.hid (show ∀ i,i<k+1→(rowN L i:Int)≤l from fun i hi=>by
      by_cases hik:i=k
      ·subst hik; omega
      ·exact HA.out i (by omega))
     go_wp2_with fail
     refine (szArch_ok _ _ _ _ _ hr0 (by omega) hmx hle).mono ?_;rintro e w1 ⟨rfl,hb1⟩;have HB1:=Lib.hid (HB.out.trans (hb1.mono HB.out.size));clear hb1;go_wp2;go_roundw
     case rel=>exact ⟨k+1,_,by omega,by go_num,rfl,by omega,by simp only [sumN]; omega,HB1.out,HA'⟩
     case measure=>simp [intOf]; omega
    ·go_wp2_with fail
     refine (szArch_no _ _ _ _ _ hr0 (by omega) hmx (by omega)).mono ?_;rintro e w1 ⟨rfl,hb1⟩;have HB1:=Lib.hid (HB.out.trans (hb1.mono HB.out.size));clear hb1;go_wp2;go_ret;exact szPost_no HB1.out
   ·obtain rfl:k=n:=by omega
    clear hb;go_wp2;go_ret;exact szPost_ok HB.out hr0 (by omega) hnl HA.out (by omega)
 ·have ht:l - (n:Int)<0:=by omega
  go_enter Tryzx.func28,Tryz.ntmps28;go_wp2;go_ret;exact szPost_no (Below.refl _ _)
set_option maxHeartbeats 800000 in
theorem eqArchS_same (A A':Option Addr) (n c c':Nat) (L:List (Nat × List Int)) (w:World) (hx:NestAt w w.heap.size 4 A n L) (hy:NestAt w w.heap.size 4 A' n L) (hn:n≤1048576) (hr:∀ i,i<n→rowN L i≤1048576) :
  Calls Tryzx.prog 33 #[.slice A n c,.slice A' n c'] w fun e w'=>e = .returned (.bool true)∧Below w.heap.size w w':=by
 have HX:=Lib.hid hx;have HY:=Lib.hid hy;have HR:=Lib.hid hr;clear hx hy hr;have ht:((n:Int) != (n:Int))=false:=by simp
 go_enter Tryzx.func33,Tryz.ntmps33;go_wp2;go_loopw [5] (fun i wr=>∃ k:Nat,k≤n∧i = .int .i64 k∧Below w.heap.size w wr) (fun i _=>n - (intOf i).toNat)
 case atStart=>exact ⟨0,Nat.zero_le _,rfl,Below.refl _ _⟩
 case round =>
  obtain ⟨k,hk,rfl,hb⟩:=hrel;have HB:=Lib.hid hb;by_cases hlt:k<n
  ·obtain ⟨b,off,rfl,hbB,hc⟩:=HX.out.2 (by omega)
   obtain ⟨b',off',rfl,hbB',hc'⟩:=HY.out.2 (by omega);obtain ⟨Ak,ck,hx,hrec,_,_⟩:=hc k hlt;obtain ⟨Ak',ck',hx',hrec',_,_⟩:=hc' k hlt;have cx0:wr.cell? ⟨b,off+k,none⟩=some (.slice Ak (rowN L k) ck):=(hb.cell (by exact hbB)).trans hx;have cy0:wr.cell? ⟨b',off'+k,none⟩=some (.slice Ak' (rowN L k) ck'):=(hb.cell (by exact hbB')).trans hx';have r1:=(hrec.below hb).mono hb.size;have r2:=(hrec'.below hb).mono hb.size;have hrk:=HR.out k hlt;have hz:=hb.size;have ki:(k:Int)<(n:Int):=by omega
   have k0:(0:Int)≤(k:Int):=by omega
   clear hc hc' hb hx hx' hrec hrec';go_wp2;go_region_held3 (fun w'=>w'.cell? ⟨b,off+k,none⟩=some (.slice Ak (rowN L k) ck)∧w'.cell? ⟨b',off'+k,none⟩=some (.slice Ak' (rowN L k) ck')) (first | (go_keep; done) | (refine ⟨?_,?_⟩ <;> (rw [hcc _ _ (by simp <;> omega)]; go_keep))) ((go_at_call 56; refine (eqArch_same _ _ _ _ _ (rowZ L k) _ (by exact r1) (by exact r2) hrk).mono ?_; rintro e w1 ⟨rfl,hb1⟩; obtain ⟨hcc,hff⟩:=bcell hb1));have HB1:=Lib.hid (HB.out.drew.trans (hb1.mono (by have:=HB.out.size; simp; omega)))
   clear hcc hff hb1;go_wp2;go_roundw
   case rel=>exact ⟨k+1,by omega,by go_num,HB1.out⟩
   case measure=>simp [intOf]; omega
  ·obtain rfl:k=n:=by omega
   clear hb;go_wp2;go_ret;exact ⟨rfl,HB.out⟩
end X
namespace X
open Go.RowKit
theorem infoLoad:(Tryzx.prog.info? 77).map (fun i=>(i.zero,i.size,i.bytes))=some (some (.agg #[.int .i64 0,.int .i64 0,.int .i64 0]),3,24):=by kernel_rfl
set_option maxHeartbeats 400000 in
theorem toLoad_any (x0 x1 x2:Int) (w:World):Calls Tryzx.prog 81 #[.agg #[.int .i64 x0,.int .i64 x1,.int .i64 x2]] w fun e w'=>e = .returned (.agg #[.int .i64 x0,.int .i64 x1,.int .i64 x2])∧Below w.heap.size w w':=by
 go_enter Tryzx.func81,Tryz.ntmps81;go_wp2;exact bodyPost_ret (v := .agg #[.int .i64 x0,.int .i64 x1,.int .i64 x2]) (by simp [results,Tryz.results81,go_sem]) rfl ⟨rfl,(((Below.refl _ _).alloc (Nat.le_refl _) _).alloc (by simp) _).alloc (by simp; omega) _⟩
set_option maxHeartbeats 800000 in
theorem toLoadS_any (A:Option Addr) (n c:Nat) (zs:List Int) (w:World) (h:RecsAt w w.heap.size 3 A n zs) (hn:n≤1048576) :
  Calls Tryzx.prog 55 #[.slice A n c] w fun e w'=>e = .returned (.slice (some ⟨w.heap.size,0,none⟩) n n)∧w'.rowIs w.heap.size 77 (n*3) (ints zs)∧Below w.heap.size w w':=by
 have H:=Lib.hid h;clear h;have hmk:=fun W=>run_make_recs (P:=Tryzx.prog) 46 77 3 24 #[.int .i64 0,.int .i64 0,.int .i64 0] Tryzx.underlying46 infoLoad n (by omega) hn W
 go_enter Tryzx.func55,Tryz.ntmps55;go_wp2;clear hmk;go_loopw [4] (fun i wr=>∃ k:Nat,k≤n∧i = .int .i64 k∧wr.rowIs w.heap.size 77 (n*3) (fill zs (k*3))∧Below w.heap.size w wr) (fun i _=>n - (intOf i).toNat)
 case atStart=>exact ⟨0,Nat.zero_le _,rfl,by rw [Nat.zero_mul]; exact rowIs_made0 w _ _ _ (fun j hj=>by simp at hj; match j,hj with | 0,_=>rfl | 1,_=>rfl | 2,_=>rfl) (by simp) zs,(Below.refl _ _).alloc (Nat.le_refl _) _⟩
 case round =>
  obtain ⟨k,hk,rfl,hrow,hb⟩:=hrel;by_cases hlt:k<n
  ·obtain ⟨b,off,rfl,hbB,hc⟩:=H.out.2 (by omega)
   have hgl:=hrow.lt;have hx0:wr.cell? ⟨b,off+k*3,none⟩=some (.int .i64 (nth zs (k*3))):=(hb.cell (by exact hbB)).trans (hc (k*3) (by omega));have hx1:wr.cell? ⟨b,off+k*3+1,none⟩=some (.int .i64 (nth zs (k*3+1))):=(hb.cell (by exact hbB)).trans (by have:=hc (k*3+1) (by omega); rwa [← Nat.add_assoc] at this)
   have hx2:wr.cell? ⟨b,off+k*3+2,none⟩=some (.int .i64 (nth zs (k*3+2))):=(hb.cell (by exact hbB)).trans (by have:=hc (k*3+2) (by omega); rwa [← Nat.add_assoc] at this)
   have HR:=Lib.hid hrow;have HB:=Lib.hid hb;clear hrow hb hc;go_wp2_with fail
   refine (toLoad_any _ _ _ _).mono ?_;rintro e w1 ⟨rfl,hb1⟩;have HR1:=Lib.hid (below_row hb1 HR.out hgl);have HB1:=Lib.hid (HB.out.trans (hb1.mono HB.out.size));clear hb1;have hy0:w1.cell? ⟨w.heap.size,k*3,none⟩=some (.int .i64 0):=by rw [HR1.out.cell (by omega),fill_at zs (by omega)]
   have hf0:w1.frozen? ⟨w.heap.size,k*3,none⟩=false:=HR1.out.frozen _;have hy1:w1.cell? ⟨w.heap.size,k*3+1,none⟩=some (.int .i64 0):=by rw [HR1.out.cell (by omega),fill_at zs (by omega)]
   have hf1:w1.frozen? ⟨w.heap.size,k*3+1,none⟩=false:=HR1.out.frozen _;have hy2:w1.cell? ⟨w.heap.size,k*3+2,none⟩=some (.int .i64 0):=by rw [HR1.out.cell (by omega),fill_at zs (by omega)]
   have hf2:w1.frozen? ⟨w.heap.size,k*3+2,none⟩=false:=HR1.out.frozen _;go_wp2;go_roundw
   case rel=>exact ⟨k+1,by omega,by go_num,by rw [Nat.add_mul,Nat.one_mul]; exact World.rowIs.congr (World.rowIs.set (World.rowIs.set (World.rowIs.set HR1.out (k*3) _) (k*3+1) _) (k*3+2) _) (fun j _=>fill_step3 zs (k*3) j),(((HB1.out.setCell (Nat.le_refl _) _).setCell (Nat.le_refl _) _).setCell (Nat.le_refl _) _)⟩
   case measure=>simp [intOf]; omega
  ·have hkn:k=n:=by omega
   subst hkn;have HR:=Lib.hid hrow;have HB:=Lib.hid hb;clear hrow hb;go_wp2;go_ret;exact ⟨rfl,HR.out.congr (fun j hj=>fill_end zs hj),HB.out⟩
theorem szLoadS_ok (A:Option Addr) (n c:Nat) (l:Int) (w:World) (h0:0≤l) (h1:l≤1048576) (hn:n≤9223372036854775807) (h:(n:Int)≤l):Calls Tryzx.prog 51 #[.slice A n c,.int .i64 l] w fun e w'=>e = .returned (.int .i64 (l - n))∧w=w':=by
 have ht:¬ l - (n:Int)<0:=by omega
 go_enter Tryzx.func51,Tryz.ntmps51;go_wp2;go_ret;exact ⟨rfl,rfl⟩
theorem szLoadS_no (A:Option Addr) (n c:Nat) (l:Int) (w:World) (h0:0≤l) (h1:l≤1048576) (hn:n≤9223372036854775807) (h:l<(n:Int)):Calls Tryzx.prog 51 #[.slice A n c,.int .i64 l] w fun e w'=>e = .returned (.int .i64 (-1))∧w=w':=by
 have ht:l - (n:Int)<0:=by omega
 go_enter Tryzx.func51,Tryz.ntmps51;go_wp2;go_ret;exact ⟨rfl,rfl⟩
set_option maxHeartbeats 400000 in
theorem eqLoad_same (x0 x1 x2:Int) (w:World):Calls Tryzx.prog 83 #[.agg #[.int .i64 x0,.int .i64 x1,.int .i64 x2],.agg #[.int .i64 x0,.int .i64 x1,.int .i64 x2]] w fun e w'=>e = .returned (.bool true)∧Below w.heap.size w w':=by
 have t0:(x0 != x0)=false:=by simp
 have t1:(x1 != x1)=false:=by simp
 have t2:(x2 != x2)=false:=by simp
 go_enter Tryzx.func83,Tryz.ntmps83;go_wp2;go_ret;exact ⟨rfl,((Below.refl _ _).alloc (Nat.le_refl _) _).alloc (by simp) _⟩
set_option maxHeartbeats 800000 in
theorem eqLoadS_same (A A':Option Addr) (n c c':Nat) (zs:List Int) (w:World) (hx:RecsAt w w.heap.size 3 A n zs) (hy:RecsAt w w.heap.size 3 A' n zs) (hn:n≤1048576) :
  Calls Tryzx.prog 57 #[.slice A n c,.slice A' n c'] w fun e w'=>e = .returned (.bool true)∧Below w.heap.size w w':=by
 have HX:=Lib.hid hx;have HY:=Lib.hid hy;clear hx hy;have ht:((n:Int) != (n:Int))=false:=by simp
 go_enter Tryzx.func57,Tryz.ntmps57;go_wp2;go_loopw [5] (fun i wr=>∃ k:Nat,k≤n∧i = .int .i64 k∧Below w.heap.size w wr) (fun i _=>n - (intOf i).toNat)
 case atStart=>exact ⟨0,Nat.zero_le _,rfl,Below.refl _ _⟩
 case round =>
  obtain ⟨k,hk,rfl,hb⟩:=hrel;have HB:=Lib.hid hb;by_cases hlt:k<n
  ·obtain ⟨b,off,rfl,hbB,hc⟩:=HX.out.2 (by omega)
   obtain ⟨b',off',rfl,hbB',hc'⟩:=HY.out.2 (by omega);have hz:=hb.size;have cx0:wr.cell? ⟨b,off+k*3,none⟩=some (.int .i64 (nth zs (k*3))):=(hb.cell (by exact hbB)).trans (hc (k*3) (by omega));have cy0:wr.cell? ⟨b',off'+k*3,none⟩=some (.int .i64 (nth zs (k*3))):=(hb.cell (by exact hbB')).trans (hc' (k*3) (by omega));have cx1:wr.cell? ⟨b,off+k*3+1,none⟩=some (.int .i64 (nth zs (k*3+1))):=(hb.cell (by exact hbB)).trans (by have:=hc (k*3+1) (by omega); rwa [← Nat.add_assoc] at this)
   have cy1:wr.cell? ⟨b',off'+k*3+1,none⟩=some (.int .i64 (nth zs (k*3+1))):=(hb.cell (by exact hbB')).trans (by have:=hc' (k*3+1) (by omega); rwa [← Nat.add_assoc] at this)
   have cx2:wr.cell? ⟨b,off+k*3+2,none⟩=some (.int .i64 (nth zs (k*3+2))):=(hb.cell (by exact hbB)).trans (by have:=hc (k*3+2) (by omega); rwa [← Nat.add_assoc] at this)
   have cy2:wr.cell? ⟨b',off'+k*3+2,none⟩=some (.int .i64 (nth zs (k*3+2))):=(hb.cell (by exact hbB')).trans (by have:=hc' (k*3+2) (by omega); rwa [← Nat.add_assoc] at this)
   generalize nth zs (k*3)=u0 at *
   generalize nth zs (k*3+1)=u1 at *
   generalize nth zs (k*3+2)=u2 at *
   have ki:(k:Int)<(n:Int):=by omega
   have k0:(0:Int)≤(k:Int):=by omega
   clear hc hc' hb;go_wp2;go_region_held3 (fun w'=>w'.cell? ⟨b,off+k*3,none⟩=some (.int .i64 u0)∧w'.cell? ⟨b,off+k*3+1,none⟩=some (.int .i64 u1)∧w'.cell? ⟨b,off+k*3+2,none⟩=some (.int .i64 u2)∧w'.cell? ⟨b',off'+k*3,none⟩=some (.int .i64 u0)∧w'.cell? ⟨b',off'+k*3+1,none⟩=some (.int .i64 u1)∧w'.cell? ⟨b',off'+k*3+2,none⟩=some (.int .i64 u2)) (first | (go_keep; done) | (refine ⟨?_,?_,?_,?_,?_,?_⟩ <;> (rw [hcc _ _ (by simp <;> omega)]; go_keep))) ((go_at_call 83; refine (eqLoad_same _ _ _ _).mono ?_; rintro e w1 ⟨rfl,hb1⟩; obtain ⟨hcc,hff⟩:=bcell hb1));have HB1:=Lib.hid (HB.out.drew.trans (hb1.mono (by have:=HB.out.size; simp; omega)))
   clear hcc hff hb1;go_wp2;go_roundw
   case rel=>exact ⟨k+1,by omega,by go_num,HB1.out⟩
   case measure=>simp [intOf]; omega
  ·have hkn:k=n:=by omega
   subst hkn;clear hb;go_wp2;go_ret;exact ⟨rfl,HB.out⟩
end X
namespace X
open Go.RowKit
theorem infoLLoadS:(Tryzx.prog.info? 46).map (fun i=>(i.zero,i.size,i.bytes))=some (some (.slice none 0 0),1,24):=by kernel_rfl
theorem toLoadS_ex (A:Option Addr) (n c:Nat) (zs:List Int) (w:World) (h:RecsAt w w.heap.size 3 A n zs) (hn:n≤1048576) :
  Calls Tryzx.prog 55 #[.slice A n c] w fun e w'=>∃ g,e = .returned (.slice (some ⟨g,0,none⟩) n n)∧w.heap.size≤g∧w'.rowIs g 77 (n*3) (ints zs)∧Below w.heap.size w w' :=
 (toLoadS_any A n c zs w h hn).mono fun _ _ ⟨he,hr,hb⟩=>⟨_,he,Nat.le_refl _,hr,hb⟩
set_option maxHeartbeats 800000 in
theorem toLoadSS_any (A:Option Addr) (n c:Nat) (L:List (Nat × List Int)) (w:World) (h:NestAt w w.heap.size 3 A n L) (hn:n≤1048576) (hr:∀ i,i<n→rowN L i≤1048576) :
  Calls Tryzx.prog 32 #[.slice A n c] w fun e w'=>∃ g,e = .returned (.slice (some ⟨g,0,none⟩) n n)∧w.heap.size≤g∧NestRow w' g 46 77 3 n L∧Below w.heap.size w w':=by
 have H:=Lib.hid h;have HR:=Lib.hid hr;clear h hr;have hmk:=run_make_row' (P:=Tryzx.prog) 29 46 (.slice none 0 0) 24 Tryzx.underlying29 infoLLoadS rfl .i64 .i64 n (by omega) (by omega);go_enter Tryzx.func32,Tryz.ntmps32;go_wp2;clear hmk;go_loopw [4] (fun i wr=>∃ k:Nat,k≤n∧i = .int .i64 k∧NestTo wr w.heap.size 46 77 3 n L k∧Below w.heap.size w wr) (fun i _=>n - (intOf i).toNat)
 case atStart=>exact ⟨0,Nat.zero_le _,rfl,NestTo.start w _ _ _ _ _,(Below.refl _ _).alloc (Nat.le_refl _) _⟩
 case round =>
  obtain ⟨k,hk,rfl,hrow,hb⟩:=hrel;by_cases hlt:k<n
  ·obtain ⟨b,off,rfl,hbB,hc⟩:=H.out.2 (by omega)
   obtain ⟨Ak,ck,hx,hrec,_,_⟩:=hc k hlt;have hx0:wr.cell? ⟨b,off+k,none⟩=some (.slice Ak (rowN L k) ck):=(hb.cell (by exact hbB)).trans hx;have hrec':=(hrec.below hb).mono hb.size;have hrk:=HR.out k hlt;have hz:=hb.size;have HRW:=Lib.hid hrow;have HB:=Lib.hid hb;clear hrow hb hc hx hrec;go_wp2_with fail
   refine (toLoadS_ex _ _ _ (rowZ L k) _ hrec' hrk).mono ?_;rintro e w1 ⟨gi,rfl,hgi,ri,hb1⟩;have hrow1:=HRW.out.after hb1;have hcy:=hrow1.cell hlt;have hfy:=hrow1.frozen k;have hlt1:w.heap.size<gi:=by have:=HRW.out; obtain ⟨f,h1,_⟩:=this; have:=h1.lt; omega
   have HS:=Lib.hid (hrow1.step hlt1 ri);have HB1:=Lib.hid ((HB.out.trans (hb1.mono hz)).setCell (p:=⟨w.heap.size,k,none⟩) (Nat.le_refl _) (.slice (some ⟨gi,0,none⟩) (rowN L k) (rowN L k)));clear hrow1 hb1 ri hrec';go_wp2;go_roundw
   case rel=>exact ⟨k+1,by omega,by go_num,HS.out,HB1.out⟩
   case measure=>simp [intOf]; omega
  ·obtain rfl:k=n:=by omega
   have HRW:=Lib.hid hrow.done;have HB:=Lib.hid hb;clear hrow hb;go_wp2;go_ret;exact ⟨_,rfl,Nat.le_refl _,HRW.out,HB.out⟩
set_option maxHeartbeats 800000 in
theorem szLoadSS_any (A:Option Addr) (n c:Nat) (L:List (Nat × List Int)) (l:Int) (w:World) (h:NestAt w w.heap.size 3 A n L) (hl0:0≤l) (hl1:l≤1048576) (hn:n≤9223372036854775807) :
  Calls Tryzx.prog 29 #[.slice A n c,.int .i64 l] w (SzPost l n L w):=by
 have H:=Lib.hid h;clear h;by_cases hnl:(n:Int)≤l
 ·have ht:¬ l - (n:Int)<0:=by omega
  go_enter Tryzx.func29,Tryz.ntmps29;go_wp2;go_loopw [1,5] (fun m i wr=>∃ (k:Nat) (r:Int),k≤n∧i = .int .i64 k∧m = .int .i64 r∧0≤r∧r+(sumN L k:Int)≤l∧Below w.heap.size w wr∧Hid (∀ i,i<k→(rowN L i:Int)≤l)) (fun _ i _=>n - (intOf i).toNat)
  case atStart=>exact ⟨0,_,Nat.zero_le _,rfl,rfl,by omega,by simp [sumN]; omega,Below.refl _ _,Lib.hid (fun i hi=>absurd hi (by omega))⟩
  case round =>
   obtain ⟨k,r,hk,rfl,rfl,hr0,hr1,hb,HA⟩:=hrel;have HB:=Lib.hid hb;by_cases hlt:k<n
   ·obtain ⟨b,off,rfl,hbB,hc⟩:=H.out.2 (by omega)
    obtain ⟨Ak,ck,hx,hrec,hcc,hcm⟩:=hc k hlt;have hx0:wr.cell? ⟨b,off+k,none⟩=some (.slice Ak (rowN L k) ck):=(hb.cell (by exact hbB)).trans hx;have hmx:rowN L k≤9223372036854775807:=by unfold maxLen at hcm; omega
    clear hc hx hrec hb;by_cases hle:(rowN L k:Int)≤r
    ·have ht2:¬ r - (rowN L k:Int)<0:=by omega
     have HA':=Lib.hid (show ∀ i,i<k+1→(rowN L i:Int)≤l from fun i hi=>by
      by_cases hik:i=k
      ·subst hik; omega
      ·exact HA.out i (by omega))
     go_wp2_with fail
     refine (calls_below (szLoadS_ok _ _ _ _ _ hr0 (by omega) hmx hle)).mono ?_;rintro e w1 ⟨rfl,hb1⟩;have HB1:=Lib.hid (HB.out.trans (hb1.mono HB.out.size));clear hb1;go_wp2;go_roundw
     case rel=>exact ⟨k+1,_,by omega,by go_num,rfl,by omega,by simp only [sumN]; omega,HB1.out,HA'⟩
     case measure=>simp [intOf]; omega
    ·go_wp2_with fail
     refine (calls_below (szLoadS_no _ _ _ _ _ hr0 (by omega) hmx (by omega))).mono ?_;rintro e w1 ⟨rfl,hb1⟩;have HB1:=Lib.hid (HB.out.trans (hb1.mono HB.out.size));clear hb1;go_wp2;go_ret;exact szPost_no HB1.out
   ·obtain rfl:k=n:=by omega
    clear hb;go_wp2;go_ret;exact szPost_ok HB.out hr0 (by omega) hnl HA.out (by omega)
 ·have ht:l - (n:Int)<0:=by omega
  go_enter Tryzx.func29,Tryz.ntmps29;go_wp2;go_ret;exact szPost_no (Below.refl _ _)
set_option maxHeartbeats 800000 in
theorem eqLoadSS_same (A A':Option Addr) (n c c':Nat) (L:List (Nat × List Int)) (w:World) (hx:NestAt w w.heap.size 3 A n L) (hy:NestAt w w.heap.size 3 A' n L) (hn:n≤1048576) (hr:∀ i,i<n→rowN L i≤1048576) :
  Calls Tryzx.prog 34 #[.slice A n c,.slice A' n c'] w fun e w'=>e = .returned (.bool true)∧Below w.heap.size w w':=by
 have HX:=Lib.hid hx;have HY:=Lib.hid hy;have HR:=Lib.hid hr;clear hx hy hr;have ht:((n:Int) != (n:Int))=false:=by simp
 go_enter Tryzx.func34,Tryz.ntmps34;go_wp2;go_loopw [5] (fun i wr=>∃ k:Nat,k≤n∧i = .int .i64 k∧Below w.heap.size w wr) (fun i _=>n - (intOf i).toNat)
 case atStart=>exact ⟨0,Nat.zero_le _,rfl,Below.refl _ _⟩
 case round =>
  obtain ⟨k,hk,rfl,hb⟩:=hrel;have HB:=Lib.hid hb;by_cases hlt:k<n
  ·obtain ⟨b,off,rfl,hbB,hc⟩:=HX.out.2 (by omega)
   obtain ⟨b',off',rfl,hbB',hc'⟩:=HY.out.2 (by omega);obtain ⟨Ak,ck,hx,hrec,_,_⟩:=hc k hlt;obtain ⟨Ak',ck',hx',hrec',_,_⟩:=hc' k hlt;have cx0:wr.cell? ⟨b,off+k,none⟩=some (.slice Ak (rowN L k) ck):=(hb.cell (by exact hbB)).trans hx;have cy0:wr.cell? ⟨b',off'+k,none⟩=some (.slice Ak' (rowN L k) ck'):=(hb.cell (by exact hbB')).trans hx';have r1:=(hrec.below hb).mono hb.size;have r2:=(hrec'.below hb).mono hb.size;have hrk:=HR.out k hlt;have hz:=hb.size;have ki:(k:Int)<(n:Int):=by omega
   have k0:(0:Int)≤(k:Int):=by omega
   clear hc hc' hb hx hx' hrec hrec';go_wp2;go_region_held3 (fun w'=>w'.cell? ⟨b,off+k,none⟩=some (.slice Ak (rowN L k) ck)∧w'.cell? ⟨b',off'+k,none⟩=some (.slice Ak' (rowN L k) ck')) (first | (go_keep; done) | (refine ⟨?_,?_⟩ <;> (rw [hcc _ _ (by simp <;> omega)]; go_keep))) ((go_at_call 57; refine (eqLoadS_same _ _ _ _ _ (rowZ L k) _ (by exact r1) (by exact r2) hrk).mono ?_; rintro e w1 ⟨rfl,hb1⟩; obtain ⟨hcc,hff⟩:=bcell hb1));have HB1:=Lib.hid (HB.out.drew.trans (hb1.mono (by have:=HB.out.size; simp; omega)))
   clear hcc hff hb1;go_wp2;go_roundw
   case rel=>exact ⟨k+1,by omega,by go_num,HB1.out⟩
   case measure=>simp [intOf]; omega
  ·obtain rfl:k=n:=by omega
   clear hb;go_wp2;go_ret;exact ⟨rfl,HB.out⟩
end X
end Go.Proofs.YtjcgklifabcfkaaGreat
