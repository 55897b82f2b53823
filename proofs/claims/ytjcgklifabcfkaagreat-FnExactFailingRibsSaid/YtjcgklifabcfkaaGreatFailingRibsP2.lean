/-
  Texts that the law stands on, part 2.
-/
import Derived.Test.YtjcgklifabcfkaaGreatFailingRibsP1
import Derived.Test.YtjcgklifabcfkaaGreatN10
import Derived.Test.YtjcgklifabcfkaaGreatN15
import Derived.Test.YtjcgklifabcfkaaGreatN18
import Derived.Test.YtjcgklifabcfkaaGreatN9
import Derived.Deep.RegionHeld3
import Derived.Outline
set_option maxRecDepth 100000
set_option linter.unusedVariables false
set_option linter.unusedSimpArgs false
namespace Go.Proofs.YtjcgklifabcfkaaGreat
section
open Go.RowKit
structure Turn (base:Nat) (E:TypeId) (w w':World):Prop where
 os:w'.os=w.os
 tape:w'.tape=w.tape
 output:w'.output=w.output
 size:w'.heap.size=w.heap.size
 block:∀ b,(b<base ∨ ∀ c,w.heap[b]? ≠ some (.cells c E))→w'.heap[b]?=w.heap[b]?
theorem Turn.refl (base:Nat) (E:TypeId) (w:World):Turn base E w w:=⟨rfl,rfl,rfl,rfl,fun _ _=>rfl⟩
theorem Turn.trans {base:Nat} {E:TypeId} {a b c:World} (h:Turn base E a b) (h':Turn base E b c):Turn base E a c :=
 ⟨h'.os.trans h.os,h'.tape.trans h.tape,h'.output.trans h.output,h'.size.trans h.size,fun k hk=>by
  have e:=h.block k hk;refine (h'.block k ?_).trans e;rcases hk with hk | hk
  ·exact .inl hk
  ·exact .inr fun x=>by rw [e]; exact hk x⟩
theorem Turn.of_only {base g m:Nat} {E:TypeId} {f:Nat→Value} {w w':World} (h:Only g w w') (hr:RowF w g E m f) (hg:base≤g):Turn base E w w' :=
 ⟨h.os,h.tape,h.output,h.size,fun k hk=>h.block k (fun e=>by
  subst e;obtain ⟨c,hc,_⟩:=hr;rcases hk with hk | hk
  ·omega
  ·exact hk c hc)⟩
theorem Turn.below {base:Nat} {E:TypeId} {w w':World} (h:Turn base E w w'):Below base w w':=⟨h.os,h.tape,h.output,Nat.le_of_eq h.size.symm,fun k hk=>h.block k (.inl hk)⟩
structure GM (w:World) (base:Nat) (T E:TypeId) (K:Nat) (v:Value) (n:Nat) (cs:List Value) (L:List (Nat × List Int)):Prop where
 cells:OwnC w base T v n cs
 row:∀ i,i<n→∃ g c,cs[i]?=some (.slice (some ⟨g,0,none⟩) (rowN L i) c)∧base≤g∧rowN L i≤c∧c≤maxLen∧RowF w g E (rowN L i*K) (ints (rowZ L i))∧(rowZ L i).length=rowN L i*K
 apart:∀ i j,i<n→j<n→i ≠ j→∀ g,(cs[i]?).bind Value.ownBlock=some g→(cs[j]?).bind Value.ownBlock ≠ some g
def mkTo (L:List (Nat × List Int)) (n K:Nat) (k0:Int) (k:Nat):List (Nat × List Int) :=
 (List.range n).map fun i=>if i<k then (rowN L i,iota (k0+(sumN L i*K:Nat)) (rowN L i*K)) else (rowN L i,rowZ L i)
section
variable {w w' : World} {base : Nat} {T E : TypeId} {K n : Nat} {v : Value} {cs : List Value} {L : List (Nat × List Int)}
theorem mkTo_get {k0:Int} {k i:Nat} (hi:i<n):(mkTo L n K k0 k).getD i (0,[])=if i<k then (rowN L i,iota (k0+(sumN L i*K:Nat)) (rowN L i*K)) else (rowN L i,rowZ L i):=by simp [mkTo,List.getD,hi]
theorem mkTo_n {k0:Int} {k i:Nat} (hi:i<n):rowN (mkTo L n K k0 k) i=rowN L i:=by
 rw [rowN,mkTo_get hi]; split <;> rfl
theorem mkTo_ge {k0:Int} {k i:Nat} (hi:i<n) (hk:¬ i<k):rowZ (mkTo L n K k0 k) i=rowZ L i:=by
 rw [rowZ,mkTo_get hi,if_neg hk]
theorem GM.keep (h:GM w base T E K v n cs L) (e:∀ g c X,w.heap[g]?=some (.cells c X)→base≤g→X=T ∨ X=E→w'.heap[g]?=w.heap[g]?):GM w' base T E K v n cs L:=by
 refine ⟨h.cells.ofBlock fun g hg => ?_,fun i hi => ?_,h.apart⟩
 ·obtain ⟨c,hc⟩:=h.cells.typeAt g hg
  exact e g c T hc (h.cells.ownLt g hg) (.inl rfl)
 ·obtain ⟨g,c,h1,h2,h3,h4,h5,h6⟩:=h.row i hi
  refine ⟨g,c,h1,h2,h3,h4,h5.of_block ?_,h6⟩;obtain ⟨c',hc',_⟩:=h5;exact e g c' E hc' h2 (.inr rfl)
theorem GM.after (h:GM w base T E K v n cs L) (hb:Below w.heap.size w w'):GM w' base T E K v n cs L :=
 h.keep fun g _ _ hg _ _=>hb.block g (Array.getElem?_eq_some_iff.1 hg).1
theorem GM.turn (h:GM w base T E K v n cs L) {b:Nat} {X:TypeId} (ht:Turn b X w w') (h1:X ≠ T) (h2:X ≠ E):GM w' base T E K v n cs L :=
 h.keep fun g c Y hg _ hY=>ht.block g (.inr fun c' e=>by
  rw [hg] at e;simp at e;rcases hY with hY | hY
  ·exact h1 (e.2.symm.trans hY)
  ·exact h2 (e.2.symm.trans hY))
theorem GM.nestAt {A:Option Addr} {c:Nat} (h:GM w base T E K (.slice A n c) n cs L) (hL:L.length=n):NestAt w w.heap.size K A n L:=by
 refine ⟨hL,fun hn => ?_⟩;rcases h.cells.form with ⟨_,h2,_⟩ | ⟨g,cap,e,_,_,hgl,hc⟩
 ·omega
 ·simp at e
  obtain ⟨rfl,rfl⟩:=e;refine ⟨g,0,rfl,hgl,fun i hi => ?_⟩;obtain ⟨gi,ci,h1,h2,h3,h4,h5,h6⟩:=h.row i hi;exact ⟨_,ci,by rw [Nat.zero_add,hc i hi,h1],h5.recs h6,h3,h4⟩
theorem GM.congr {L':List (Nat × List Int)} (h:GM w base T E K v n cs L) (e:∀ i,i<n→rowN L' i=rowN L i∧rowZ L' i=rowZ L i):GM w base T E K v n cs L':=by
 refine ⟨h.cells,fun i hi => ?_,h.apart⟩;obtain ⟨e1,e2⟩:=e i hi;rw [e1,e2];exact h.row i hi
theorem GM.start {k0:Int} (h:GM w base T E K v n cs L):GM w base T E K v n cs (mkTo L n K k0 0):=h.congr fun i hi=>⟨mkTo_n hi,mkTo_ge hi (by omega)⟩
theorem GM.get {A:Option Addr} {c i:Nat} (h:GM w base T E K (.slice A n c) n cs L) (hi:i<n):∃ g gi ci,A=some ⟨g,0,none⟩∧w.cell? ⟨g,i,none⟩=some (.slice (some ⟨gi,0,none⟩) (rowN L i) ci)∧cs[i]?=some (.slice (some ⟨gi,0,none⟩) (rowN L i) ci)∧RowF w gi E (rowN L i*K) (ints (rowZ L i))∧base≤gi:=by
 rcases h.cells.form with ⟨_,h2,_⟩ | ⟨g,cap,e,_,_,hgl,hc⟩
 ·omega
 ·simp at e
  obtain ⟨rfl,rfl⟩:=e;obtain ⟨gi,ci,h1,h2,h3,h4,h5,h6⟩:=h.row i hi;exact ⟨g,gi,ci,rfl,by rw [hc i hi,h1],h1,h5,h2⟩
theorem NestInts.turn {lo hi g b:Nat} {X:TypeId} (h:NestInts w lo hi g T E K n L) (ht:Turn b X w w') (h1:X ≠ T) (h2:X ≠ E):NestInts w' lo hi g T E K n L:=by
 obtain ⟨h0,f,hrow,hf⟩:=h;have key:∀ (g' m:Nat) (Y:TypeId) (f':Nat→Value),w.rowIs g' Y m f'→X ≠ Y→w'.rowIs g' Y m f':=fun g' m Y f' hr hne=>hr.of_block (ht.block g' (.inr fun c e=>by
  obtain ⟨c',hc',_⟩:=hr;rw [hc'] at e;simp at e;exact hne e.2.symm))
 refine ⟨h0,f,key _ _ _ _ hrow h1,fun i hi' => ?_⟩;obtain ⟨gi,fi,e1,e2,e3,e4,e5⟩:=hf i hi';exact ⟨gi,fi,e1,e2,e3,key _ _ _ _ e4 h2,e5⟩
end
end
namespace X
open Go.RowKit
set_option maxHeartbeats 400000 in
theorem toPoint_any (x0 x1:Int) (w:World):Calls Tryzx.prog 122 #[.agg #[.int .i64 x0,.int .i64 x1]] w fun e w'=>e = .returned (.agg #[.int .i64 x0,.int .i64 x1])∧Below w.heap.size w w':=by
 go_enter Tryzx.func122,Tryz.ntmps122;go_wp2;exact bodyPost_ret (v := .agg #[.int .i64 x0,.int .i64 x1]) (by simp [results,Tryz.results122,go_sem]) rfl ⟨rfl,(((Below.refl _ _).alloc (Nat.le_refl _) _).alloc (by simp) _).alloc (by simp; omega) _⟩
end X
namespace X
open Go.RowKit
theorem infoJoint:(Tryzx.prog.info? 110).map (fun i=>(i.zero,i.size,i.bytes))=some (some (.agg #[.int .i64 0,.int .i64 0,.int .i64 0,.int .i64 0]),4,32):=by kernel_rfl
set_option maxHeartbeats 400000 in
theorem toJoint_any (x0 x1 x2 x3:Int) (w:World):Calls Tryzx.prog 102 #[.agg #[.int .i64 x0,.int .i64 x1,.int .i64 x2,.int .i64 x3]] w fun e w'=>e = .returned (.agg #[.int .i64 x0,.int .i64 x1,.int .i64 x2,.int .i64 x3])∧Below w.heap.size w w':=by
 go_enter Tryzx.func102,Tryz.ntmps102;go_wp2_with fail
 refine (toPoint_any _ _ _).mono ?_;rintro e w1 ⟨rfl,hb1⟩;have hz1:=hb1.size;simp at hz1;have ra:RowF w1 w.heap.size 144 4 (ints [x0,x1,x2,x3]):=(((RowF.of_row (World.rowIs_alloc w #[.int .i64 x0,.int .i64 x1,.int .i64 x2,.int .i64 x3] _ _ (fun j hj=>by simp at hj; match j,hj with | 0,_=>rfl | 1,_=>rfl | 2,_=>rfl | 3,_=>rfl))).alloc _).alloc _).after hb1
 have rr:RowF w1 (w.heap.size+1) 110 4 (ints [0,0,0,0]):=by
  have h:=((RowF.of_row (World.rowIs_alloc (w.alloc (.cells #[.int .i64 x0,.int .i64 x1,.int .i64 x2,.int .i64 x3] 144)) #[.int .i64 0,.int .i64 0,.int .i64 0,.int .i64 0] 110 (ints [0,0,0,0]) (fun j hj=>by simp at hj; match j,hj with | 0,_=>rfl | 1,_=>rfl | 2,_=>rfl | 3,_=>rfl))).alloc (.cells #[.int .i64 0,.int .i64 0,.int .i64 0,.int .i64 0] 110)).after hb1
  simpa using h
 have ro:RowF w1 (w.heap.size+1+1) 110 4 (ints [0,0,0,0]):=by
  have h:=(RowF.of_row (World.rowIs_alloc ((w.alloc (.cells #[.int .i64 x0,.int .i64 x1,.int .i64 x2,.int .i64 x3] 144)).alloc (.cells #[.int .i64 0,.int .i64 0,.int .i64 0,.int .i64 0] 110)) #[.int .i64 0,.int .i64 0,.int .i64 0,.int .i64 0] 110 (ints [0,0,0,0]) (fun j hj=>by simp at hj; match j,hj with | 0,_=>rfl | 1,_=>rfl | 2,_=>rfl | 3,_=>rfl))).after hb1
  simpa using h
 have a2:w1.cell? ⟨w.heap.size,2,none⟩=some (.int .i64 x2):=ra.cell (by omega);have a3:w1.cell? ⟨w.heap.size,3,none⟩=some (.int .i64 x3):=ra.cell (by omega);have o0:w1.cell? ⟨w.heap.size+1+1,0,none⟩=some (.int .i64 0):=ro.cell (by omega);have o1:w1.cell? ⟨w.heap.size+1+1,1,none⟩=some (.int .i64 0):=ro.cell (by omega);have f0:=ro.frozen 0;have f1:=ro.frozen 1;have HB1:=Lib.hid ((((Below.refl _ w).alloc (Nat.le_refl _) _).alloc (by simp) _).alloc (by simp; omega) _ |>.trans (hb1.mono (by simp; omega)))
 have ro2:=(ro.set 0 (.int .i64 x0)).set 1 (.int .i64 x1);have rr2:RowF ((w1.setCell ⟨w.heap.size+1+1,0,none⟩ (.int .i64 x0)).setCell ⟨w.heap.size+1+1,1,none⟩ (.int .i64 x1)) (w.heap.size+1) 110 4 (ints [0,0,0,0]):=(rr.set_other (by simp) _).set_other (by simp) _;clear hb1;go_wp2_with fail
 refine (toPoint_any _ _ _).mono ?_;rintro e w2 ⟨rfl,hb2⟩;have hz2:=hb2.size;simp at hz2;have s:=ro2.after hb2;have r:=rr2.after hb2;have HB2:=Lib.hid (((HB1.out.setCell (p:=⟨w.heap.size+1+1,0,none⟩) (by simp; omega) _).setCell (p:=⟨w.heap.size+1+1,1,none⟩) (by simp; omega) _).trans (hb2.mono (by simp; omega)))
 have s0:w2.cell? ⟨w.heap.size+1+1,0,none⟩=some (.int .i64 x0):=s.cell (by omega);have s1:w2.cell? ⟨w.heap.size+1+1,1,none⟩=some (.int .i64 x1):=s.cell (by omega);have s2:w2.cell? ⟨w.heap.size+1+1,2,none⟩=some (.int .i64 0):=s.cell (by omega);have s3:w2.cell? ⟨w.heap.size+1+1,3,none⟩=some (.int .i64 0):=s.cell (by omega);have g2:=s.frozen 2;have g3:=s.frozen 3;have r0:w2.cell? ⟨w.heap.size+1,0,none⟩=some (.int .i64 0):=r.cell (by omega);have r1:w2.cell? ⟨w.heap.size+1,1,none⟩=some (.int .i64 0):=r.cell (by omega);have r2:w2.cell? ⟨w.heap.size+1,2,none⟩=some (.int .i64 0):=r.cell (by omega);have r3:w2.cell? ⟨w.heap.size+1,3,none⟩=some (.int .i64 0):=r.cell (by omega);have k0:=r.frozen 0;have k1:=r.frozen 1;have k2:=r.frozen 2;have k3:=r.frozen 3;clear hb2 ro2 rr2 s r ra rr ro a2 a3 o0 o1 f0 f1;go_wp2;refine bodyPost_ret (v := .agg #[.int .i64 x0,.int .i64 x1,.int .i64 x2,.int .i64 x3]) (by simp [results,Tryz.results102,go_sem, *]) rfl ⟨rfl,?_⟩;exact (((((HB2.out.setCell (p:=⟨w.heap.size+1+1,2,none⟩) (by simp; omega) _).setCell (p:=⟨w.heap.size+1+1,3,none⟩) (by simp; omega) _).setCell (p:=⟨w.heap.size+1,0,none⟩) (by simp) _).setCell (p:=⟨w.heap.size+1,1,none⟩) (by simp) _).setCell (p:=⟨w.heap.size+1,2,none⟩) (by simp) _).setCell (p:=⟨w.heap.size+1,3,none⟩) (by simp) _
set_option maxHeartbeats 800000 in
theorem toJointS_any (A:Option Addr) (n c:Nat) (zs:List Int) (w:World) (h:RecsAt w w.heap.size 4 A n zs) (hn:n≤1048576) :
  Calls Tryzx.prog 80 #[.slice A n c] w fun e w'=>e = .returned (.slice (some ⟨w.heap.size,0,none⟩) n n)∧w'.rowIs w.heap.size 110 (n*4) (ints zs)∧Below w.heap.size w w':=by
 have H:=Lib.hid h;clear h;have hmk:=fun W=>run_make_recs (P:=Tryzx.prog) 43 110 4 32 #[.int .i64 0,.int .i64 0,.int .i64 0,.int .i64 0] Tryzx.underlying43 infoJoint n (by omega) hn W
 go_enter Tryzx.func80,Tryz.ntmps80;go_wp2;clear hmk;go_loopw [4] (fun i wr=>∃ k:Nat,k≤n∧i = .int .i64 k∧wr.rowIs w.heap.size 110 (n*4) (fill zs (k*4))∧Below w.heap.size w wr) (fun i _=>n - (intOf i).toNat)
 case atStart=>exact ⟨0,Nat.zero_le _,rfl,by rw [Nat.zero_mul]; exact rowIs_made0 w _ _ _ (fun j hj=>by simp at hj; match j,hj with | 0,_=>rfl | 1,_=>rfl | 2,_=>rfl | 3,_=>rfl) (by simp) zs,(Below.refl _ _).alloc (Nat.le_refl _) _⟩
 case round =>
  obtain ⟨k,hk,rfl,hrow,hb⟩:=hrel;by_cases hlt:k<n
  ·obtain ⟨b,off,rfl,hbB,hc⟩:=H.out.2 (by omega)
   have hgl:=hrow.lt;have hx0:wr.cell? ⟨b,off+k*4,none⟩=some (.int .i64 (nth zs (k*4))):=(hb.cell (by exact hbB)).trans (hc (k*4) (by omega));have hx1:wr.cell? ⟨b,off+k*4+1,none⟩=some (.int .i64 (nth zs (k*4+1))):=(hb.cell (by exact hbB)).trans (by have:=hc (k*4+1) (by omega); rwa [← Nat.add_assoc] at this)
   have hx2:wr.cell? ⟨b,off+k*4+2,none⟩=some (.int .i64 (nth zs (k*4+2))):=(hb.cell (by exact hbB)).trans (by have:=hc (k*4+2) (by omega); rwa [← Nat.add_assoc] at this)
   have hx3:wr.cell? ⟨b,off+k*4+3,none⟩=some (.int .i64 (nth zs (k*4+3))):=(hb.cell (by exact hbB)).trans (by have:=hc (k*4+3) (by omega); rwa [← Nat.add_assoc] at this)
   have HR:=Lib.hid hrow;have HB:=Lib.hid hb;clear hrow hb hc;go_wp2_with fail
   refine (toJoint_any _ _ _ _ _).mono ?_;rintro e w1 ⟨rfl,hb1⟩;have HR1:=Lib.hid (below_row hb1 HR.out hgl);have HB1:=Lib.hid (HB.out.trans (hb1.mono HB.out.size));clear hb1;have hy0:w1.cell? ⟨w.heap.size,k*4,none⟩=some (.int .i64 0):=by rw [HR1.out.cell (by omega),fill_at zs (by omega)]
   have hf0:w1.frozen? ⟨w.heap.size,k*4,none⟩=false:=HR1.out.frozen _;have hy1:w1.cell? ⟨w.heap.size,k*4+1,none⟩=some (.int .i64 0):=by rw [HR1.out.cell (by omega),fill_at zs (by omega)]
   have hf1:w1.frozen? ⟨w.heap.size,k*4+1,none⟩=false:=HR1.out.frozen _;have hy2:w1.cell? ⟨w.heap.size,k*4+2,none⟩=some (.int .i64 0):=by rw [HR1.out.cell (by omega),fill_at zs (by omega)]
   have hf2:w1.frozen? ⟨w.heap.size,k*4+2,none⟩=false:=HR1.out.frozen _;have hy3:w1.cell? ⟨w.heap.size,k*4+3,none⟩=some (.int .i64 0):=by rw [HR1.out.cell (by omega),fill_at zs (by omega)]
   have hf3:w1.frozen? ⟨w.heap.size,k*4+3,none⟩=false:=HR1.out.frozen _;go_wp2;go_roundw
   case rel=>exact ⟨k+1,by omega,by go_num,by rw [Nat.add_mul,Nat.one_mul]; exact World.rowIs.congr (World.rowIs.set (World.rowIs.set (World.rowIs.set (World.rowIs.set HR1.out (k*4) _) (k*4+1) _) (k*4+2) _) (k*4+3) _) (fun j _=>fill_step4 zs (k*4) j),((((HB1.out.setCell (Nat.le_refl _) _).setCell (Nat.le_refl _) _).setCell (Nat.le_refl _) _).setCell (Nat.le_refl _) _)⟩
   case measure=>simp [intOf]; omega
  ·have hkn:k=n:=by omega
   subst hkn;have HR:=Lib.hid hrow;have HB:=Lib.hid hb;clear hrow hb;go_wp2;go_ret;exact ⟨rfl,HR.out.congr (fun j hj=>fill_end zs hj),HB.out⟩
theorem szJointS_ok (A:Option Addr) (n c:Nat) (l:Int) (w:World) (h0:0≤l) (h1:l≤1048576) (hn:n≤9223372036854775807) (h:(n:Int)≤l):Calls Tryzx.prog 78 #[.slice A n c,.int .i64 l] w fun e w'=>e = .returned (.int .i64 (l - n))∧w=w':=by
 have ht:¬ l - (n:Int)<0:=by omega
 go_enter Tryzx.func78,Tryz.ntmps78;go_wp2;go_ret;exact ⟨rfl,rfl⟩
theorem szJointS_no (A:Option Addr) (n c:Nat) (l:Int) (w:World) (h0:0≤l) (h1:l≤1048576) (hn:n≤9223372036854775807) (h:l<(n:Int)):Calls Tryzx.prog 78 #[.slice A n c,.int .i64 l] w fun e w'=>e = .returned (.int .i64 (-1))∧w=w':=by
 have ht:l - (n:Int)<0:=by omega
 go_enter Tryzx.func78,Tryz.ntmps78;go_wp2;go_ret;exact ⟨rfl,rfl⟩
set_option maxHeartbeats 400000 in
theorem eqJoint_same (x0 x1 x2 x3:Int) (w:World):Calls Tryzx.prog 103 #[.agg #[.int .i64 x0,.int .i64 x1,.int .i64 x2,.int .i64 x3],.agg #[.int .i64 x0,.int .i64 x1,.int .i64 x2,.int .i64 x3]] w fun e w'=>e = .returned (.bool true)∧Below w.heap.size w w':=by
 have t0:(x0 != x0)=false:=by simp
 have t1:(x1 != x1)=false:=by simp
 have t2:(x2 != x2)=false:=by simp
 have t3:(x3 != x3)=false:=by simp
 go_enter Tryzx.func103,Tryz.ntmps103;go_wp2;go_ret;exact ⟨rfl,((((((Below.refl _ _).alloc (Nat.le_refl _) _).alloc (by simp) _).alloc (by simp; omega) _).alloc (by simp; omega) _).alloc (by simp; omega) _).alloc (by simp; omega) _⟩
set_option maxHeartbeats 800000 in
theorem eqJointS_same (A A':Option Addr) (n c c':Nat) (zs:List Int) (w:World) (hx:RecsAt w w.heap.size 4 A n zs) (hy:RecsAt w w.heap.size 4 A' n zs) (hn:n≤1048576) :
  Calls Tryzx.prog 82 #[.slice A n c,.slice A' n c'] w fun e w'=>e = .returned (.bool true)∧Below w.heap.size w w':=by
 have HX:=Lib.hid hx;have HY:=Lib.hid hy;clear hx hy;have ht:((n:Int) != (n:Int))=false:=by simp
 go_enter Tryzx.func82,Tryz.ntmps82;go_wp2;go_loopw [5] (fun i wr=>∃ k:Nat,k≤n∧i = .int .i64 k∧Below w.heap.size w wr) (fun i _=>n - (intOf i).toNat)
 case atStart=>exact ⟨0,Nat.zero_le _,rfl,Below.refl _ _⟩
 case round =>
  obtain ⟨k,hk,rfl,hb⟩:=hrel;have HB:=Lib.hid hb;by_cases hlt:k<n
  ·obtain ⟨b,off,rfl,hbB,hc⟩:=HX.out.2 (by omega)
   obtain ⟨b',off',rfl,hbB',hc'⟩:=HY.out.2 (by omega);have hz:=hb.size;have cx0:wr.cell? ⟨b,off+k*4,none⟩=some (.int .i64 (nth zs (k*4))):=(hb.cell (by exact hbB)).trans (hc (k*4) (by omega));have cy0:wr.cell? ⟨b',off'+k*4,none⟩=some (.int .i64 (nth zs (k*4))):=(hb.cell (by exact hbB')).trans (hc' (k*4) (by omega));have cx1:wr.cell? ⟨b,off+k*4+1,none⟩=some (.int .i64 (nth zs (k*4+1))):=(hb.cell (by exact hbB)).trans (by have:=hc (k*4+1) (by omega); rwa [← Nat.add_assoc] at this)
   have cy1:wr.cell? ⟨b',off'+k*4+1,none⟩=some (.int .i64 (nth zs (k*4+1))):=(hb.cell (by exact hbB')).trans (by have:=hc' (k*4+1) (by omega); rwa [← Nat.add_assoc] at this)
   have cx2:wr.cell? ⟨b,off+k*4+2,none⟩=some (.int .i64 (nth zs (k*4+2))):=(hb.cell (by exact hbB)).trans (by have:=hc (k*4+2) (by omega); rwa [← Nat.add_assoc] at this)
   have cy2:wr.cell? ⟨b',off'+k*4+2,none⟩=some (.int .i64 (nth zs (k*4+2))):=(hb.cell (by exact hbB')).trans (by have:=hc' (k*4+2) (by omega); rwa [← Nat.add_assoc] at this)
   have cx3:wr.cell? ⟨b,off+k*4+3,none⟩=some (.int .i64 (nth zs (k*4+3))):=(hb.cell (by exact hbB)).trans (by have:=hc (k*4+3) (by omega); rwa [← Nat.add_assoc] at this)
   have cy3:wr.cell? ⟨b',off'+k*4+3,none⟩=some (.int .i64 (nth zs (k*4+3))):=(hb.cell (by exact hbB')).trans (by have:=hc' (k*4+3) (by omega); rwa [← Nat.add_assoc] at this)
   generalize nth zs (k*4)=u0 at *
   generalize nth zs (k*4+1)=u1 at *
   generalize nth zs (k*4+2)=u2 at *
   generalize nth zs (k*4+3)=u3 at *
   have ki:(k:Int)<(n:Int):=by omega
   have k0:(0:Int)≤(k:Int):=by omega
   clear hc hc' hb;go_wp2;go_region_held3 (fun w'=>w'.cell? ⟨b,off+k*4,none⟩=some (.int .i64 u0)∧w'.cell? ⟨b,off+k*4+1,none⟩=some (.int .i64 u1)∧w'.cell? ⟨b,off+k*4+2,none⟩=some (.int .i64 u2)∧w'.cell? ⟨b,off+k*4+3,none⟩=some (.int .i64 u3)∧w'.cell? ⟨b',off'+k*4,none⟩=some (.int .i64 u0)∧w'.cell? ⟨b',off'+k*4+1,none⟩=some (.int .i64 u1)∧w'.cell? ⟨b',off'+k*4+2,none⟩=some (.int .i64 u2)∧w'.cell? ⟨b',off'+k*4+3,none⟩=some (.int .i64 u3)) (first | (go_keep; done) | (refine ⟨?_,?_,?_,?_,?_,?_,?_,?_⟩ <;> (rw [hcc _ _ (by simp <;> omega)]; go_keep))) ((go_at_call 103; refine (eqJoint_same _ _ _ _ _).mono ?_; rintro e w1 ⟨rfl,hb1⟩; obtain ⟨hcc,hff⟩:=bcell hb1));have HB1:=Lib.hid (HB.out.drew.trans (hb1.mono (by have:=HB.out.size; simp; omega)))
   clear hcc hff hb1;go_wp2;go_roundw
   case rel=>exact ⟨k+1,by omega,by go_num,HB1.out⟩
   case measure=>simp [intOf]; omega
  ·have hkn:k=n:=by omega
   subst hkn;clear hb;go_wp2;go_ret;exact ⟨rfl,HB.out⟩
set_option maxHeartbeats 800000 in
theorem markJointS_any (g n c:Nat) (f:Nat→Value) (k0:Int) (w:World) (h:w.rowIs g 110 (n*4) f) (hf:IntRow f) (hn:n≤1048576) (h0:0≤k0) (h1:k0≤1000000000) :
  Calls Tryzx.prog 75 #[.slice (some ⟨g,0,none⟩) n c,.int .i64 k0] w fun e w'=>e = .returned (.int .i64 (k0+(n*4:Nat)))∧w'.rowIs g 110 (n*4) (marks f k0 (n*4))∧Only g w w':=by
 have H:=Lib.hid h;have HFI:=Lib.hid hf;clear h hf;go_enter Tryzx.func75,Tryz.ntmps75;go_wp2;go_loopw [1,5] (fun m i wr=>∃ k:Nat,k≤n∧i = .int .i64 k∧m = .int .i64 (k0+(k*4:Nat))∧wr.rowIs g 110 (n*4) (marks f k0 (k*4))∧Only g w wr) (fun _ i _=>n - (intOf i).toNat)
 case atStart=>exact ⟨0,Nat.zero_le _,rfl,by simp,by rw [Nat.zero_mul]; exact H.out.congr (fun j _=>(marks_0 f k0 j).symm),Only.refl _ _⟩
 case round =>
  obtain ⟨k,hk,rfl,rfl,hrow,ho⟩:=hrel;have HR:=Lib.hid hrow;have HO:=Lib.hid ho;by_cases hlt:k<n
  ·
   obtain ⟨v0,e0⟩:∃ z:Int,marks f k0 (k*4) (k*4) = .int .i64 z:=by
    obtain ⟨z,e⟩:=HFI.out (k*4);exact ⟨z,by rw [marks,if_neg (by omega)]; exact e⟩
   have hc0:wr.cell? ⟨g,k*4,none⟩=some (.int .i64 v0):=by rw [HR.out.cell (by omega),e0]
   have hf0:wr.frozen? ⟨g,k*4,none⟩=false:=HR.out.frozen _;clear e0;obtain ⟨v1,e1⟩:∃ z:Int,marks f k0 (k*4) (k*4+1) = .int .i64 z:=by
    obtain ⟨z,e⟩:=HFI.out (k*4+1);exact ⟨z,by rw [marks,if_neg (by omega)]; exact e⟩
   have hc1:wr.cell? ⟨g,k*4+1,none⟩=some (.int .i64 v1):=by rw [HR.out.cell (by omega),e1]
   have hf1:wr.frozen? ⟨g,k*4+1,none⟩=false:=HR.out.frozen _;clear e1;obtain ⟨v2,e2⟩:∃ z:Int,marks f k0 (k*4) (k*4+2) = .int .i64 z:=by
    obtain ⟨z,e⟩:=HFI.out (k*4+2);exact ⟨z,by rw [marks,if_neg (by omega)]; exact e⟩
   have hc2:wr.cell? ⟨g,k*4+2,none⟩=some (.int .i64 v2):=by rw [HR.out.cell (by omega),e2]
   have hf2:wr.frozen? ⟨g,k*4+2,none⟩=false:=HR.out.frozen _;clear e2;obtain ⟨v3,e3⟩:∃ z:Int,marks f k0 (k*4) (k*4+3) = .int .i64 z:=by
    obtain ⟨z,e⟩:=HFI.out (k*4+3);exact ⟨z,by rw [marks,if_neg (by omega)]; exact e⟩
   have hc3:wr.cell? ⟨g,k*4+3,none⟩=some (.int .i64 v3):=by rw [HR.out.cell (by omega),e3]
   have hf3:wr.frozen? ⟨g,k*4+3,none⟩=false:=HR.out.frozen _;clear e3;clear hrow ho;have hkk:(((k*4:Nat):Nat):Int)≤1073741824:=by omega
   go_wp2;go_roundw
   case rel =>
    refine ⟨k+1,by omega,by go_num,by go_num,?_,((((HO.out.setCell _ _).setCell _ _).setCell _ _).setCell _ _)⟩;have hs:=(World.rowIs.congr (World.rowIs.set (World.rowIs.congr (World.rowIs.set (World.rowIs.congr (World.rowIs.set (World.rowIs.congr (World.rowIs.set HR.out (k*4) (.int .i64 (k0+((k*4:Nat):Int)))) (fun j _=>marks_step f k0 (k*4) j)) (k*4+1) (.int .i64 (k0+((k*4+1:Nat):Int)))) (fun j _=>marks_step f k0 (k*4+1) j)) (k*4+2) (.int .i64 (k0+((k*4+2:Nat):Int)))) (fun j _=>marks_step f k0 (k*4+2) j)) (k*4+3) (.int .i64 (k0+((k*4+3:Nat):Int)))) (fun j _=>marks_step f k0 (k*4+3) j));rw [Nat.add_mul,Nat.one_mul];simpa [Int.add_assoc] using hs
   case measure=>simp [intOf]; omega
  ·have hkn:k=n:=by omega
   subst hkn;clear hrow ho;go_wp2;go_ret;exact ⟨rfl,HR.out,HO.out⟩
end X
namespace X
open Go.RowKit
theorem infoLoad:(Tryzx.prog.info? 77).map (fun i=>(i.zero,i.size,i.bytes))=some (some (.agg #[.int .i64 0,.int .i64 0,.int .i64 0]),3,24):=by kernel_rfl
set_option maxHeartbeats 400000 in
theorem toLoad_any (x0 x1 x2:Int) (w:World):Calls Tryzx.prog 81 #[.agg #[.int .i64 x0,.int .i64 x1,.int .i64 x2]] w fun e w'=>e = .returned (.agg #[.int .i64 x0,.int .i64 x1,.int .i64 x2])∧Below w.heap.size w w':=by
 go_enter Tryzx.func81,Tryz.ntmps81;go_wp2;exact bodyPost_ret (v := .agg #[.int .i64 x0,.int .i64 x1,.int .i64 x2]) (by simp [results,Tryz.results81,go_sem]) rfl ⟨rfl,(((Below.refl _ _).alloc (Nat.le_refl _) _).alloc (by simp) _).alloc (by simp; omega) _⟩
set_option maxHeartbeats 800000 in
theorem toLoadS_any (A:Option Addr) (n c:Nat) (zs:List Int) (w:World) (h:RecsAt w w.heap.size 3 A n zs) (hn:n≤1048576) :
  Calls Tryzx.prog 55 #[.slice A n c] w fun e w'=>e = .returned (.slice (some ⟨w.heap.size,0,none⟩) n n)∧w'.rowIs w.heap.size 77 (n*3) (ints zs)∧Below w.heap.size w w':=by
 have H:=Lib.hid h;clear h;have hmk:=fun W=>run_make_recs (P:=Tryzx.prog) 46 77 3 24 #[.int .i64 0,.int .i64 0,.int .i64 0] Tryzx.underlying46 infoLoad n (by omega) hn W
 go_enter Tryzx.func55,Tryz.ntmps55;go_wp2;clear hmk;go_loopw [4] (fun i wr=>∃ k:Nat,k≤n∧i = .int .i64 k∧wr.rowIs w.heap.size 77 (n*3) (fill zs (k*3))∧Below w.heap.size w wr) (fun i _=>n - (intOf i).toNat)
 case atStart=>exact ⟨0,Nat.zero_le _,rfl,by rw [Nat.zero_mul]; exact rowIs_made0 w _ _ _ (fun j hj=>by simp at hj; match j,hj with | 0,_=>rfl | 1,_=>rfl | 2,_=>rfl) (by simp) zs,(Below.refl _ _).alloc (Nat.le_refl _) _⟩
 case round =>
  obtain ⟨k,hk,rfl,hrow,hb⟩:=hrel;by_cases hlt:k<n
  ·obtain ⟨b,off,rfl,hbB,hc⟩:=H.out.2 (by omega)
   have hgl:=hrow.lt;have hx0:wr.cell? ⟨b,off+k*3,none⟩=some (.int .i64 (nth zs (k*3))):=(hb.cell (by exact hbB)).trans (hc (k*3) (by omega));have hx1:wr.cell? ⟨b,off+k*3+1,none⟩=some (.int .i64 (nth zs (k*3+1))):=(hb.cell (by exact hbB)).trans (by have:=hc (k*3+1) (by omega); rwa [← Nat.add_assoc] at this)
   have hx2:wr.cell? ⟨b,off+k*3+2,none⟩=some (.int .i64 (nth zs (k*3+2))):=(hb.cell (by exact hbB)).trans (by have:=hc (k*3+2) (by omega); rwa [← Nat.add_assoc] at this)
   have HR:=Lib.hid hrow;have HB:=Lib.hid hb;clear hrow hb hc;go_wp2_with fail
   refine (toLoad_any _ _ _ _).mono ?_;rintro e w1 ⟨rfl,hb1⟩;have HR1:=Lib.hid (below_row hb1 HR.out hgl);have HB1:=Lib.hid (HB.out.trans (hb1.mono HB.out.size));clear hb1;have hy0:w1.cell? ⟨w.heap.size,k*3,none⟩=some (.int .i64 0):=by rw [HR1.out.cell (by omega),fill_at zs (by omega)]
   have hf0:w1.frozen? ⟨w.heap.size,k*3,none⟩=false:=HR1.out.frozen _;have hy1:w1.cell? ⟨w.heap.size,k*3+1,none⟩=some (.int .i64 0):=by rw [HR1.out.cell (by omega),fill_at zs (by omega)]
   have hf1:w1.frozen? ⟨w.heap.size,k*3+1,none⟩=false:=HR1.out.frozen _;have hy2:w1.cell? ⟨w.heap.size,k*3+2,none⟩=some (.int .i64 0):=by rw [HR1.out.cell (by omega),fill_at zs (by omega)]
   have hf2:w1.frozen? ⟨w.heap.size,k*3+2,none⟩=false:=HR1.out.frozen _;go_wp2;go_roundw
   case rel=>exact ⟨k+1,by omega,by go_num,by rw [Nat.add_mul,Nat.one_mul]; exact World.rowIs.congr (World.rowIs.set (World.rowIs.set (World.rowIs.set HR1.out (k*3) _) (k*3+1) _) (k*3+2) _) (fun j _=>fill_step3 zs (k*3) j),(((HB1.out.setCell (Nat.le_refl _) _).setCell (Nat.le_refl _) _).setCell (Nat.le_refl _) _)⟩
   case measure=>simp [intOf]; omega
  ·have hkn:k=n:=by omega
   subst hkn;have HR:=Lib.hid hrow;have HB:=Lib.hid hb;clear hrow hb;go_wp2;go_ret;exact ⟨rfl,HR.out.congr (fun j hj=>fill_end zs hj),HB.out⟩
theorem szLoadS_ok (A:Option Addr) (n c:Nat) (l:Int) (w:World) (h0:0≤l) (h1:l≤1048576) (hn:n≤9223372036854775807) (h:(n:Int)≤l):Calls Tryzx.prog 51 #[.slice A n c,.int .i64 l] w fun e w'=>e = .returned (.int .i64 (l - n))∧w=w':=by
 have ht:¬ l - (n:Int)<0:=by omega
 go_enter Tryzx.func51,Tryz.ntmps51;go_wp2;go_ret;exact ⟨rfl,rfl⟩
theorem szLoadS_no (A:Option Addr) (n c:Nat) (l:Int) (w:World) (h0:0≤l) (h1:l≤1048576) (hn:n≤9223372036854775807) (h:l<(n:Int)):Calls Tryzx.prog 51 #[.slice A n c,.int .i64 l] w fun e w'=>e = .returned (.int .i64 (-1))∧w=w':=by
 have ht:l - (n:Int)<0:=by omega
 go_enter Tryzx.func51,Tryz.ntmps51;go_wp2;go_ret;exact ⟨rfl,rfl⟩
set_option maxHeartbeats 400000 in
theorem eqLoad_same (x0 x1 x2:Int) (w:World):Calls Tryzx.prog 83 #[.agg #[.int .i64 x0,.int .i64 x1,.int .i64 x2],.agg #[.int .i64 x0,.int .i64 x1,.int .i64 x2]] w fun e w'=>e = .returned (.bool true)∧Below w.heap.size w w':=by
 have t0:(x0 != x0)=false:=by simp
 have t1:(x1 != x1)=false:=by simp
 have t2:(x2 != x2)=false:=by simp
 go_enter Tryzx.func83,Tryz.ntmps83;go_wp2;go_ret;exact ⟨rfl,((Below.refl _ _).alloc (Nat.le_refl _) _).alloc (by simp) _⟩
set_option maxHeartbeats 800000 in
theorem eqLoadS_same (A A':Option Addr) (n c c':Nat) (zs:List Int) (w:World) (hx:RecsAt w w.heap.size 3 A n zs) (hy:RecsAt w w.heap.size 3 A' n zs) (hn:n≤1048576) :
  Calls Tryzx.prog 57 #[.slice A n c,.slice A' n c'] w fun e w'=>e = .returned (.bool true)∧Below w.heap.size w w':=by
 have HX:=Lib.hid hx;have HY:=Lib.hid hy;clear hx hy;have ht:((n:Int) != (n:Int))=false:=by simp
 go_enter Tryzx.func57,Tryz.ntmps57;go_wp2;go_loopw [5] (fun i wr=>∃ k:Nat,k≤n∧i = .int .i64 k∧Below w.heap.size w wr) (fun i _=>n - (intOf i).toNat)
 case atStart=>exact ⟨0,Nat.zero_le _,rfl,Below.refl _ _⟩
 case round =>
  obtain ⟨k,hk,rfl,hb⟩:=hrel;have HB:=Lib.hid hb;by_cases hlt:k<n
  ·obtain ⟨b,off,rfl,hbB,hc⟩:=HX.out.2 (by omega)
   obtain ⟨b',off',rfl,hbB',hc'⟩:=HY.out.2 (by omega);have hz:=hb.size;have cx0:wr.cell? ⟨b,off+k*3,none⟩=some (.int .i64 (nth zs (k*3))):=(hb.cell (by exact hbB)).trans (hc (k*3) (by omega));have cy0:wr.cell? ⟨b',off'+k*3,none⟩=some (.int .i64 (nth zs (k*3))):=(hb.cell (by exact hbB')).trans (hc' (k*3) (by omega));have cx1:wr.cell? ⟨b,off+k*3+1,none⟩=some (.int .i64 (nth zs (k*3+1))):=(hb.cell (by exact hbB)).trans (by have:=hc (k*3+1) (by omega); rwa [← Nat.add_assoc] at this)
   have cy1:wr.cell? ⟨b',off'+k*3+1,none⟩=some (.int .i64 (nth zs (k*3+1))):=(hb.cell (by exact hbB')).trans (by have:=hc' (k*3+1) (by omega); rwa [← Nat.add_assoc] at this)
   have cx2:wr.cell? ⟨b,off+k*3+2,none⟩=some (.int .i64 (nth zs (k*3+2))):=(hb.cell (by exact hbB)).trans (by have:=hc (k*3+2) (by omega); rwa [← Nat.add_assoc] at this)
   have cy2:wr.cell? ⟨b',off'+k*3+2,none⟩=some (.int .i64 (nth zs (k*3+2))):=(hb.cell (by exact hbB')).trans (by have:=hc' (k*3+2) (by omega); rwa [← Nat.add_assoc] at this)
   generalize nth zs (k*3)=u0 at *
   generalize nth zs (k*3+1)=u1 at *
   generalize nth zs (k*3+2)=u2 at *
   have ki:(k:Int)<(n:Int):=by omega
   have k0:(0:Int)≤(k:Int):=by omega
   clear hc hc' hb;go_wp2;go_region_held3 (fun w'=>w'.cell? ⟨b,off+k*3,none⟩=some (.int .i64 u0)∧w'.cell? ⟨b,off+k*3+1,none⟩=some (.int .i64 u1)∧w'.cell? ⟨b,off+k*3+2,none⟩=some (.int .i64 u2)∧w'.cell? ⟨b',off'+k*3,none⟩=some (.int .i64 u0)∧w'.cell? ⟨b',off'+k*3+1,none⟩=some (.int .i64 u1)∧w'.cell? ⟨b',off'+k*3+2,none⟩=some (.int .i64 u2)) (first | (go_keep; done) | (refine ⟨?_,?_,?_,?_,?_,?_⟩ <;> (rw [hcc _ _ (by simp <;> omega)]; go_keep))) ((go_at_call 83; refine (eqLoad_same _ _ _ _).mono ?_; rintro e w1 ⟨rfl,hb1⟩; obtain ⟨hcc,hff⟩:=bcell hb1));have HB1:=Lib.hid (HB.out.drew.trans (hb1.mono (by have:=HB.out.size; simp; omega)))
   clear hcc hff hb1;go_wp2;go_roundw
   case rel=>exact ⟨k+1,by omega,by go_num,HB1.out⟩
   case measure=>simp [intOf]; omega
  ·have hkn:k=n:=by omega
   subst hkn;clear hb;go_wp2;go_ret;exact ⟨rfl,HB.out⟩
set_option maxHeartbeats 800000 in
theorem markLoadS_any (g n c:Nat) (f:Nat→Value) (k0:Int) (w:World) (h:w.rowIs g 77 (n*3) f) (hf:IntRow f) (hn:n≤1048576) (h0:0≤k0) (h1:k0≤1000000000) :
  Calls Tryzx.prog 76 #[.slice (some ⟨g,0,none⟩) n c,.int .i64 k0] w fun e w'=>e = .returned (.int .i64 (k0+(n*3:Nat)))∧w'.rowIs g 77 (n*3) (marks f k0 (n*3))∧Only g w w':=by
 have H:=Lib.hid h;have HFI:=Lib.hid hf;clear h hf;go_enter Tryzx.func76,Tryz.ntmps76;go_wp2;go_loopw [1,5] (fun m i wr=>∃ k:Nat,k≤n∧i = .int .i64 k∧m = .int .i64 (k0+(k*3:Nat))∧wr.rowIs g 77 (n*3) (marks f k0 (k*3))∧Only g w wr) (fun _ i _=>n - (intOf i).toNat)
 case atStart=>exact ⟨0,Nat.zero_le _,rfl,by simp,by rw [Nat.zero_mul]; exact H.out.congr (fun j _=>(marks_0 f k0 j).symm),Only.refl _ _⟩
 case round =>
  obtain ⟨k,hk,rfl,rfl,hrow,ho⟩:=hrel;have HR:=Lib.hid hrow;have HO:=Lib.hid ho;by_cases hlt:k<n
  ·
   obtain ⟨v0,e0⟩:∃ z:Int,marks f k0 (k*3) (k*3) = .int .i64 z:=by
    obtain ⟨z,e⟩:=HFI.out (k*3);exact ⟨z,by rw [marks,if_neg (by omega)]; exact e⟩
   have hc0:wr.cell? ⟨g,k*3,none⟩=some (.int .i64 v0):=by rw [HR.out.cell (by omega),e0]
   have hf0:wr.frozen? ⟨g,k*3,none⟩=false:=HR.out.frozen _;clear e0;obtain ⟨v1,e1⟩:∃ z:Int,marks f k0 (k*3) (k*3+1) = .int .i64 z:=by
    obtain ⟨z,e⟩:=HFI.out (k*3+1);exact ⟨z,by rw [marks,if_neg (by omega)]; exact e⟩
   have hc1:wr.cell? ⟨g,k*3+1,none⟩=some (.int .i64 v1):=by rw [HR.out.cell (by omega),e1]
   have hf1:wr.frozen? ⟨g,k*3+1,none⟩=false:=HR.out.frozen _;clear e1;obtain ⟨v2,e2⟩:∃ z:Int,marks f k0 (k*3) (k*3+2) = .int .i64 z:=by
    obtain ⟨z,e⟩:=HFI.out (k*3+2);exact ⟨z,by rw [marks,if_neg (by omega)]; exact e⟩
   have hc2:wr.cell? ⟨g,k*3+2,none⟩=some (.int .i64 v2):=by rw [HR.out.cell (by omega),e2]
   have hf2:wr.frozen? ⟨g,k*3+2,none⟩=false:=HR.out.frozen _;clear e2;clear hrow ho;have hkk:(((k*3:Nat):Nat):Int)≤1073741824:=by omega
   go_wp2;go_roundw
   case rel =>
    refine ⟨k+1,by omega,by go_num,by go_num,?_,(((HO.out.setCell _ _).setCell _ _).setCell _ _)⟩;have hs:=(World.rowIs.congr (World.rowIs.set (World.rowIs.congr (World.rowIs.set (World.rowIs.congr (World.rowIs.set HR.out (k*3) (.int .i64 (k0+((k*3:Nat):Int)))) (fun j _=>marks_step f k0 (k*3) j)) (k*3+1) (.int .i64 (k0+((k*3+1:Nat):Int)))) (fun j _=>marks_step f k0 (k*3+1) j)) (k*3+2) (.int .i64 (k0+((k*3+2:Nat):Int)))) (fun j _=>marks_step f k0 (k*3+2) j));rw [Nat.add_mul,Nat.one_mul];simpa [Int.add_assoc] using hs
   case measure=>simp [intOf]; omega
  ·have hkn:k=n:=by omega
   subst hkn;clear hrow ho;go_wp2;go_ret;exact ⟨rfl,HR.out,HO.out⟩
end X
namespace X
open Go.RowKit
def markTo (xs:List Int) (k0:Int):Nat→List Int
 | 0=>xs
 | k+1=>(markTo xs k0 k).set k (k0+k)
theorem markTo_length (xs:List Int) (k0:Int):∀ k,(markTo xs k0 k).length=xs.length
 | 0=>rfl
 | k+1=>by rw [markTo,List.length_set,markTo_length xs k0 k]
theorem nth_markTo (xs:List Int) (k0:Int):∀ k,k≤xs.length→∀ j,j<k→nth (markTo xs k0 k) j=k0+j
 | 0,_,j,hj=>absurd hj (by omega)
 | k+1,hk,j,hj=>by
  have hl:j<(markTo xs k0 (k+1)).length:=by rw [markTo_length]; omega
  rw [nth_get _ _ hl];simp only [markTo,List.getElem_set];by_cases h:k=j
  ·subst h; simp
  ·rw [if_neg h,← nth_get]
   exact nth_markTo xs k0 k (by omega) j (by omega)
theorem markTo_end (xs:List Int) (k0:Int):markTo xs k0 xs.length=iota k0 xs.length :=
 list_ext_nth (by rw [markTo_length,iota_length]) (fun j hj=>by
  rw [markTo_length] at hj;rw [nth_markTo xs k0 _ (Nat.le_refl _) j hj,nth_iota hj])
theorem markTo_step (xs:List Int) (k0:Int) (k:Nat):markTo xs k0 (k+1)=(markTo xs k0 k).set k (k0+k):=rfl
set_option maxHeartbeats 400000 in
theorem markIntS_any (A:Option Addr) (n c:Nat) (xs:List Int) (k0:Int) (base:Nat) (w:World) (h:OwnV w base 3 (.slice A n c) xs) (hn:n≤1048576) (h0:0≤k0) (h1:k0≤1000000000) :
  Calls Tryzx.prog 25 #[.slice A n c,.int .i64 k0] w fun e w'=>e = .returned (.int .i64 (k0+n))∧OwnV w' base 3 (.slice A n c) (iota k0 n)∧Below base w w'∧w'.heap.size=w.heap.size:=by
 have hln:=h.len;subst hln;go_enter Tryzx.func25,Tryz.ntmps25;go_wp2;go_loopw [1,5] (fun m i wr=>∃ k:Nat,k≤xs.length∧i = .int .i64 k∧m = .int .i64 (k0+k)∧OwnV wr base 3 (.slice A xs.length c) (markTo xs k0 k)∧Below base w wr∧wr.heap.size=w.heap.size) (fun _ i _=>xs.length - (intOf i).toNat)
 case atStart=>exact ⟨0,Nat.zero_le _,rfl,by simp,h,Below.refl _ _,rfl⟩
 case round =>
  obtain ⟨k,hk,rfl,rfl,hown,hb,hsz⟩:=hrel;have HL:=Lib.hid (markTo_length xs k0 k);have HS:=Lib.hid (markTo_step xs k0 k);have HE:=Lib.hid (markTo_end xs k0);by_cases hlt:k<xs.length
  ·rcases hown.form with ⟨e1,e2⟩ | ⟨g,cap,e1,hi⟩
   ·exfalso
    have:=HL.out;rw [e2] at this;simp at this;omega
   rw [HL.out] at e1;simp only [Value.slice.injEq,true_and] at e1;obtain ⟨rfl,rfl⟩:=e1;have hcx:=hi.cell (j:=k) (by rw [HL.out]; exact hlt);have hfx:=hi.frozen k;have hg:=hi.blk;have HB:=Lib.hid hb;have HI:=Lib.hid hi;have HZ:=Lib.hid hsz;clear hown hi hb hsz h;generalize nth (markTo xs k0 k) k=z at *
   generalize hmm:markTo xs k0 k=mm at *
   clear hmm;go_wp2;go_roundw
   case rel =>
    refine ⟨k+1,by omega,by go_num,by go_num,?_,HB.out.setCell hg.1 _,by simpa using HZ.out⟩;rw [HS.out];have:=HI.out.set k (k0+k);unfold OwnI at this;rw [List.length_set,HL.out] at this;exact this
   case measure=>simp [intOf]; omega
  ·have hkn:k=xs.length:=by omega
   subst hkn;have HO:=Lib.hid hown;have HB:=Lib.hid hb;have HZ:=Lib.hid hsz;clear hown hb hsz h;go_wp2;go_ret;refine ⟨rfl,?_,HB.out,HZ.out⟩;rw [← HE.out];exact HO.out
set_option maxHeartbeats 400000 in
theorem heldIntS_any (A:Option Addr) (n c:Nat) (k0:Int) (w:World) (h:IntsAt w w.heap.size A n (iota k0 n)) (hn:n≤1048576) (h0:0≤k0) (h1:k0≤1000000000) :
  Calls Tryzx.prog 26 #[.slice A n c,.int .i64 k0] w fun e w'=>e = .returned (.int .i64 (k0+n))∧w=w':=by
 have H:=Lib.hid h;clear h;go_enter Tryzx.func26,Tryz.ntmps26;go_wp2;go_loop [1,5] (fun m i=>∃ k:Nat,k≤n∧i = .int .i64 k∧m = .int .i64 (k0+k)) (fun _ i=>n - (intOf i).toNat)
 case atStart=>exact ⟨0,Nat.zero_le _,rfl,by simp⟩
 case round =>
  obtain ⟨k,hk,rfl,rfl⟩:=hrel;by_cases hlt:k<n
  ·obtain ⟨b,off,rfl,hbB,hc⟩:=H.out.2 (by omega)
   have hcx:w.cell? ⟨b,off+k,none⟩=some (.int .i64 (k0+k)):=by rw [hc k hlt,nth_iota hlt]
   have ht:(k0+(k:Int) != k0+(k:Int))=false:=by simp
   clear hc;go_wp2;go_round
   case rel=>exact ⟨k+1,by omega,by go_num,by go_num⟩
   case measure=>simp [intOf]; omega
  ·have hkn:k=n:=by omega
   subst hkn;go_wp2;go_ret;exact ⟨rfl,rfl⟩
end X
namespace X
open Go.RowKit
theorem toArch_any (A:Option Addr) (n c:Nat) (zs:List Int) (w:World) (h:RecsAt w w.heap.size 4 A n zs) (hn:n≤1048576) :
  Calls Tryzx.prog 54 #[.agg #[.slice A n c]] w fun e w'=>∃ g,e = .returned (.agg #[.slice (some ⟨g,0,none⟩) n n])∧w.heap.size≤g∧w'.rowIs g 110 (n*4) (ints zs)∧Below w.heap.size w w':=by
 have H3:RecsAt (((w.alloc (.cells #[.slice A n c] 83)).alloc (.cells #[.slice none 0 0] 45)).alloc (.cells #[.slice none 0 0] 45)) (((w.alloc (.cells #[.slice A n c] 83)).alloc (.cells #[.slice none 0 0] 45)).alloc (.cells #[.slice none 0 0] 45)).heap.size 4 A n zs :=
  (((h.alloc (Nat.le_refl _) _).alloc (by simp) _).alloc (by simp; omega) _).mono (by simp; omega)
 go_enter Tryzx.func54,Tryz.ntmps54;go_wp2_with fail
 refine (toJointS_any _ _ _ zs _ H3 hn).mono ?_;rintro e w1 ⟨rfl,r1,hb1⟩;have rr:RowF w1 (w.heap.size+1) 45 1 (fun _ => .slice none 0 0):=by
  have h:=((RowF.of_row (World.rowIs_alloc (w.alloc (.cells #[.slice A n c] 83)) #[.slice none 0 0] 45 (fun _ => .slice none 0 0) (fun j hj=>by simp at hj; subst hj; rfl))).alloc (.cells #[.slice none 0 0] 45)).after hb1
  simpa using h
 have ro:RowF w1 (w.heap.size+1+1) 45 1 (fun _ => .slice none 0 0):=by
  have h:=(RowF.of_row (World.rowIs_alloc ((w.alloc (.cells #[.slice A n c] 83)).alloc (.cells #[.slice none 0 0] 45)) #[.slice none 0 0] 45 (fun _ => .slice none 0 0) (fun j hj=>by simp at hj; subst hj; rfl))).after hb1
  simpa using h
 have e1:=rr.cell (i:=0) (by omega);have e2:=ro.cell (i:=0) (by omega);have f1:=rr.frozen 0;have f2:=ro.frozen 0;have HB1:=Lib.hid (((((Below.refl _ w).alloc (Nat.le_refl _) _).alloc (by simp) _).alloc (by simp; omega) _).trans (hb1.mono (by simp; omega)))
 have HR:=Lib.hid r1;clear r1 hb1 rr ro H3;go_wp2;refine bodyPost_ret (v := .agg #[.slice (some ⟨w.heap.size+1+1+1,0,none⟩) n n]) (by simp [results,Tryz.results54,go_sem, *]) rfl ⟨w.heap.size+1+1+1,rfl,by omega,?_,?_⟩
 ·have h:=HR.out
  simp at h;exact (h.of_block (Below.heap_setCell _ _ _ _ (by simp <;> omega))).of_block (Below.heap_setCell _ _ _ _ (by simp <;> omega))
 ·exact (HB1.out.setCell (p:=⟨w.heap.size+1+1,0,none⟩) (by simp; omega) _).setCell (p:=⟨w.heap.size+1,0,none⟩) (by simp) _
theorem szArch_ok (A:Option Addr) (n c:Nat) (l:Int) (w:World) (h0:0≤l) (h1:l≤1048576) (hn:n≤9223372036854775807) (h:(n:Int)≤l):Calls Tryzx.prog 50 #[.agg #[.slice A n c],.int .i64 l] w fun e w'=>e = .returned (.int .i64 (l - n))∧Below w.heap.size w w':=by
 have ht:¬ l - (n:Int)<0:=by omega
 go_enter Tryzx.func50,Tryz.ntmps50;go_wp2_with (go_at_call 78; refine (szJointS_ok _ _ _ _ _ h0 h1 hn h).mono ?_; rintro e w' ⟨rfl,rfl⟩);go_ret;exact ⟨rfl,(Below.refl _ _).alloc (Nat.le_refl _) _⟩
theorem szArch_no (A:Option Addr) (n c:Nat) (l:Int) (w:World) (h0:0≤l) (h1:l≤1048576) (hn:n≤9223372036854775807) (h:l<(n:Int)):Calls Tryzx.prog 50 #[.agg #[.slice A n c],.int .i64 l] w fun e w'=>e = .returned (.int .i64 (-1))∧Below w.heap.size w w':=by
 go_enter Tryzx.func50,Tryz.ntmps50;go_wp2_with (go_at_call 78; refine (szJointS_no _ _ _ _ _ h0 h1 hn h).mono ?_; rintro e w' ⟨rfl,rfl⟩);go_ret;exact ⟨rfl,(Below.refl _ _).alloc (Nat.le_refl _) _⟩
theorem eqArch_same (A A':Option Addr) (n c c':Nat) (zs:List Int) (w:World) (hx:RecsAt w w.heap.size 4 A n zs) (hy:RecsAt w w.heap.size 4 A' n zs) (hn:n≤1048576) :
  Calls Tryzx.prog 56 #[.agg #[.slice A n c],.agg #[.slice A' n c']] w fun e w'=>e = .returned (.bool true)∧Below w.heap.size w w':=by
 have hx2:=((hx.alloc (Nat.le_refl _) (.cells #[.slice A n c] 45)).alloc (by simp) (.cells #[.slice A' n c'] 45)).mono (B':=((w.alloc (.cells #[.slice A n c] 45)).alloc (.cells #[.slice A' n c'] 45)).heap.size) (by simp; omega)
 have hy2:=((hy.alloc (Nat.le_refl _) (.cells #[.slice A n c] 45)).alloc (by simp) (.cells #[.slice A' n c'] 45)).mono (B':=((w.alloc (.cells #[.slice A n c] 45)).alloc (.cells #[.slice A' n c'] 45)).heap.size) (by simp; omega)
 go_enter Tryzx.func56,Tryz.ntmps56;go_wp2_with fail
 refine (eqJointS_same _ _ _ _ _ zs _ hx2 hy2 hn).mono ?_;rintro e w1 ⟨rfl,hb1⟩;go_wp2;go_ret;exact ⟨rfl,(((Below.refl _ w).alloc (Nat.le_refl _) _).alloc (by simp) _).trans (hb1.mono (by simp; omega))⟩
end X
namespace X
open Go.RowKit
theorem infoArch:(Tryzx.prog.info? 45).map (fun i=>(i.zero,i.size,i.bytes))=some (some (.agg #[.slice none 0 0]),1,24):=by kernel_rfl
set_option maxHeartbeats 800000 in
theorem toArchS_any (A:Option Addr) (n c:Nat) (L:List (Nat × List Int)) (w:World) (h:NestAt w w.heap.size 4 A n L) (hn:n≤1048576) (hr:∀ i,i<n→rowN L i≤1048576) :
  Calls Tryzx.prog 31 #[.slice A n c] w fun e w'=>∃ g,e = .returned (.slice (some ⟨g,0,none⟩) n n)∧w.heap.size≤g∧NestRow w' g 45 110 4 n L∧Below w.heap.size w w':=by
 have H:=Lib.hid h;have HR:=Lib.hid hr;clear h hr;have hmk:=fun W=>run_make_recs (P:=Tryzx.prog) 28 45 1 24 #[.slice none 0 0] Tryzx.underlying28 infoArch n (by omega) hn W
 rw [Nat.mul_one] at hmk;go_enter Tryzx.func31,Tryz.ntmps31;go_wp2;clear hmk;go_loopw [4] (fun i wr=>∃ k:Nat,k≤n∧i = .int .i64 k∧NestTo wr w.heap.size 45 110 4 n L k∧Below w.heap.size w wr) (fun i _=>n - (intOf i).toNat)
 case atStart=>exact ⟨0,Nat.zero_le _,rfl,NestTo.start w _ _ _ _ _,(Below.refl _ _).alloc (Nat.le_refl _) _⟩
 case round =>
  obtain ⟨k,hk,rfl,hrow,hb⟩:=hrel;by_cases hlt:k<n
  ·obtain ⟨b,off,rfl,hbB,hc⟩:=H.out.2 (by omega)
   obtain ⟨Ak,ck,hx,hrec,_,_⟩:=hc k hlt;have hx0:wr.cell? ⟨b,off+k,none⟩=some (.slice Ak (rowN L k) ck):=(hb.cell (by exact hbB)).trans hx;have hrec':=(hrec.below hb).mono hb.size;have hrk:=HR.out k hlt;have hz:=hb.size;have HRW:=Lib.hid hrow;have HB:=Lib.hid hb;clear hrow hb hc hx hrec;go_wp2_with fail
   refine (toArch_any _ _ _ (rowZ L k) _ hrec' hrk).mono ?_;rintro e w1 ⟨gi,rfl,hgi,ri,hb1⟩;have hrow1:=HRW.out.after hb1;have hcy:=hrow1.cell hlt;have hfy:=hrow1.frozen k;have hlt1:w.heap.size<gi:=by have:=HRW.out; obtain ⟨f,h1,_⟩:=this; have:=h1.lt; omega
   have HS:=Lib.hid (hrow1.step hlt1 ri);have HB1:=Lib.hid ((HB.out.trans (hb1.mono hz)).setCell (p:=⟨w.heap.size,k,none⟩) (Nat.le_refl _) (.slice (some ⟨gi,0,none⟩) (rowN L k) (rowN L k)));clear hrow1 hb1 ri hrec';go_wp2;go_roundw
   case rel=>exact ⟨k+1,by omega,by go_num,HS.out,HB1.out⟩
   case measure=>simp [intOf]; omega
  ·obtain rfl:k=n:=by omega
   have HRW:=Lib.hid hrow.done;have HB:=Lib.hid hb;clear hrow hb;go_wp2;go_ret;exact ⟨_,rfl,Nat.le_refl _,HRW.out,HB.out⟩
set_option maxHeartbeats 800000 in
theorem szArchS_any (A:Option Addr) (n c:Nat) (L:List (Nat × List Int)) (l:Int) (w:World) (h:NestAt w w.heap.size 4 A n L) (hl0:0≤l) (hl1:l≤1048576) (hn:n≤9223372036854775807) :
  Calls Tryzx.prog 28 #[.slice A n c,.int .i64 l] w (SzPost l n L w):=by
 have H:=Lib.hid h;clear h;by_cases hnl:(n:Int)≤l
 ·have ht:¬ l - (n:Int)<0:=by omega
  go_enter Tryzx.func28,Tryz.ntmps28;go_wp2;go_loopw [1,5] (fun m i wr=>∃ (k:Nat) (r:Int),k≤n∧i = .int .i64 k∧m = .int .i64 r∧0≤r∧r+(sumN L k:Int)≤l∧Below w.heap.size w wr∧Hid (∀ i,i<k→(rowN L i:Int)≤l)) (fun _ i _=>n - (intOf i).toNat)
  case atStart=>exact ⟨0,_,Nat.zero_le _,rfl,rfl,by omega,by simp [sumN]; omega,Below.refl _ _,Lib.hid (fun i hi=>absurd hi (by omega))⟩
  case round =>
   obtain ⟨k,r,hk,rfl,rfl,hr0,hr1,hb,HA⟩:=hrel;have HB:=Lib.hid hb;by_cases hlt:k<n
   ·obtain ⟨b,off,rfl,hbB,hc⟩:=H.out.2 (by omega)
    obtain ⟨Ak,ck,hx,hrec,hcc,hcm⟩:=hc k hlt;have hx0:wr.cell? ⟨b,off+k,none⟩=some (.slice Ak (rowN L k) ck):=(hb.cell (by exact hbB)).trans hx;have hmx:rowN L k≤9223372036854775807:=by unfold maxLen at hcm; omega
    clear hc hx hrec hb;by_cases hle:(rowN L k:Int)≤r
    ·have ht2:¬ r - (rowN L k:Int)<0:=by omega
     have HA':=Lib.hid (show ∀ i,i<k+1→(rowN L i:Int)≤l from fun i hi=>by
      by_cases hik:i=k
      ·subst hik; omega
      ·exact HA.out i (by omega))
     go_wp2_with fail
     refine (szArch_ok _ _ _ _ _ hr0 (by omega) hmx hle).mono ?_;rintro e w1 ⟨rfl,hb1⟩;have HB1:=Lib.hid (HB.out.trans (hb1.mono HB.out.size));clear hb1;go_wp2;go_roundw
     case rel=>exact ⟨k+1,_,by omega,by go_num,rfl,by omega,by simp only [sumN]; omega,HB1.out,HA'⟩
     case measure=>simp [intOf]; omega
    ·go_wp2_with fail
     refine (szArch_no _ _ _ _ _ hr0 (by omega) hmx (by omega)).mono ?_;rintro e w1 ⟨rfl,hb1⟩;have HB1:=Lib.hid (HB.out.trans (hb1.mono HB.out.size));clear hb1;go_wp2;go_ret;exact szPost_no HB1.out
   ·obtain rfl:k=n:=by omega
    clear hb;go_wp2;go_ret;exact szPost_ok HB.out hr0 (by omega) hnl HA.out (by omega)
 ·have ht:l - (n:Int)<0:=by omega
  go_enter Tryzx.func28,Tryz.ntmps28;go_wp2;go_ret;exact szPost_no (Below.refl _ _)
set_option maxHeartbeats 800000 in
theorem eqArchS_same (A A':Option Addr) (n c c':Nat) (L:List (Nat × List Int)) (w:World) (hx:NestAt w w.heap.size 4 A n L) (hy:NestAt w w.heap.size 4 A' n L) (hn:n≤1048576) (hr:∀ i,i<n→rowN L i≤1048576) :
  Calls Tryzx.prog 33 #[.slice A n c,.slice A' n c'] w fun e w'=>e = .returned (.bool true)∧Below w.heap.size w w':=by
 have HX:=Lib.hid hx;have HY:=Lib.hid hy;have HR:=Lib.hid hr;clear hx hy hr;have ht:((n:Int) != (n:Int))=false:=by simp
 go_enter Tryzx.func33,Tryz.ntmps33;go_wp2;go_loopw [5] (fun i wr=>∃ k:Nat,k≤n∧i = .int .i64 k∧Below w.heap.size w wr) (fun i _=>n - (intOf i).toNat)
 case atStart=>exact ⟨0,Nat.zero_le _,rfl,Below.refl _ _⟩
 case round =>
  obtain ⟨k,hk,rfl,hb⟩:=hrel;have HB:=Lib.hid hb;by_cases hlt:k<n
  ·obtain ⟨b,off,rfl,hbB,hc⟩:=HX.out.2 (by omega)
   obtain ⟨b',off',rfl,hbB',hc'⟩:=HY.out.2 (by omega);obtain ⟨Ak,ck,hx,hrec,_,_⟩:=hc k hlt;obtain ⟨Ak',ck',hx',hrec',_,_⟩:=hc' k hlt;have cx0:wr.cell? ⟨b,off+k,none⟩=some (.slice Ak (rowN L k) ck):=(hb.cell (by exact hbB)).trans hx;have cy0:wr.cell? ⟨b',off'+k,none⟩=some (.slice Ak' (rowN L k) ck'):=(hb.cell (by exact hbB')).trans hx';have r1:=(hrec.below hb).mono hb.size;have r2:=(hrec'.below hb).mono hb.size;have hrk:=HR.out k hlt;have hz:=hb.size;have ki:(k:Int)<(n:Int):=by omega
   have k0:(0:Int)≤(k:Int):=by omega
   clear hc hc' hb hx hx' hrec hrec';go_wp2;go_region_held3 (fun w'=>w'.cell? ⟨b,off+k,none⟩=some (.slice Ak (rowN L k) ck)∧w'.cell? ⟨b',off'+k,none⟩=some (.slice Ak' (rowN L k) ck')) (first | (go_keep; done) | (refine ⟨?_,?_⟩ <;> (rw [hcc _ _ (by simp <;> omega)]; go_keep))) ((go_at_call 56; refine (eqArch_same _ _ _ _ _ (rowZ L k) _ (by exact r1) (by exact r2) hrk).mono ?_; rintro e w1 ⟨rfl,hb1⟩; obtain ⟨hcc,hff⟩:=bcell hb1));have HB1:=Lib.hid (HB.out.drew.trans (hb1.mono (by have:=HB.out.size; simp; omega)))
   clear hcc hff hb1;go_wp2;go_roundw
   case rel=>exact ⟨k+1,by omega,by go_num,HB1.out⟩
   case measure=>simp [intOf]; omega
  ·obtain rfl:k=n:=by omega
   clear hb;go_wp2;go_ret;exact ⟨rfl,HB.out⟩
end X
namespace X
open Go.RowKit
theorem infoLLoadS:(Tryzx.prog.info? 46).map (fun i=>(i.zero,i.size,i.bytes))=some (some (.slice none 0 0),1,24):=by kernel_rfl
theorem toLoadS_ex (A:Option Addr) (n c:Nat) (zs:List Int) (w:World) (h:RecsAt w w.heap.size 3 A n zs) (hn:n≤1048576) :
  Calls Tryzx.prog 55 #[.slice A n c] w fun e w'=>∃ g,e = .returned (.slice (some ⟨g,0,none⟩) n n)∧w.heap.size≤g∧w'.rowIs g 77 (n*3) (ints zs)∧Below w.heap.size w w' :=
 (toLoadS_any A n c zs w h hn).mono fun _ _ ⟨he,hr,hb⟩=>⟨_,he,Nat.le_refl _,hr,hb⟩
set_option maxHeartbeats 800000 in
theorem toLoadSS_any (A:Option Addr) (n c:Nat) (L:List (Nat × List Int)) (w:World) (h:NestAt w w.heap.size 3 A n L) (hn:n≤1048576) (hr:∀ i,i<n→rowN L i≤1048576) :
  Calls Tryzx.prog 32 #[.slice A n c] w fun e w'=>∃ g,e = .returned (.slice (some ⟨g,0,none⟩) n n)∧w.heap.size≤g∧NestRow w' g 46 77 3 n L∧Below w.heap.size w w':=by
 have H:=Lib.hid h;have HR:=Lib.hid hr;clear h hr;have hmk:=run_make_row' (P:=Tryzx.prog) 29 46 (.slice none 0 0) 24 Tryzx.underlying29 infoLLoadS rfl .i64 .i64 n (by omega) (by omega);go_enter Tryzx.func32,Tryz.ntmps32;go_wp2;clear hmk;go_loopw [4] (fun i wr=>∃ k:Nat,k≤n∧i = .int .i64 k∧NestTo wr w.heap.size 46 77 3 n L k∧Below w.heap.size w wr) (fun i _=>n - (intOf i).toNat)
 case atStart=>exact ⟨0,Nat.zero_le _,rfl,NestTo.start w _ _ _ _ _,(Below.refl _ _).alloc (Nat.le_refl _) _⟩
 case round =>
  obtain ⟨k,hk,rfl,hrow,hb⟩:=hrel;by_cases hlt:k<n
  ·obtain ⟨b,off,rfl,hbB,hc⟩:=H.out.2 (by omega)
   obtain ⟨Ak,ck,hx,hrec,_,_⟩:=hc k hlt;have hx0:wr.cell? ⟨b,off+k,none⟩=some (.slice Ak (rowN L k) ck):=(hb.cell (by exact hbB)).trans hx;have hrec':=(hrec.below hb).mono hb.size;have hrk:=HR.out k hlt;have hz:=hb.size;have HRW:=Lib.hid hrow;have HB:=Lib.hid hb;clear hrow hb hc hx hrec;go_wp2_with fail
   refine (toLoadS_ex _ _ _ (rowZ L k) _ hrec' hrk).mono ?_;rintro e w1 ⟨gi,rfl,hgi,ri,hb1⟩;have hrow1:=HRW.out.after hb1;have hcy:=hrow1.cell hlt;have hfy:=hrow1.frozen k;have hlt1:w.heap.size<gi:=by have:=HRW.out; obtain ⟨f,h1,_⟩:=this; have:=h1.lt; omega
   have HS:=Lib.hid (hrow1.step hlt1 ri);have HB1:=Lib.hid ((HB.out.trans (hb1.mono hz)).setCell (p:=⟨w.heap.size,k,none⟩) (Nat.le_refl _) (.slice (some ⟨gi,0,none⟩) (rowN L k) (rowN L k)));clear hrow1 hb1 ri hrec';go_wp2;go_roundw
   case rel=>exact ⟨k+1,by omega,by go_num,HS.out,HB1.out⟩
   case measure=>simp [intOf]; omega
  ·obtain rfl:k=n:=by omega
   have HRW:=Lib.hid hrow.done;have HB:=Lib.hid hb;clear hrow hb;go_wp2;go_ret;exact ⟨_,rfl,Nat.le_refl _,HRW.out,HB.out⟩
set_option maxHeartbeats 800000 in
theorem szLoadSS_any (A:Option Addr) (n c:Nat) (L:List (Nat × List Int)) (l:Int) (w:World) (h:NestAt w w.heap.size 3 A n L) (hl0:0≤l) (hl1:l≤1048576) (hn:n≤9223372036854775807) :
  Calls Tryzx.prog 29 #[.slice A n c,.int .i64 l] w (SzPost l n L w):=by
 have H:=Lib.hid h;clear h;by_cases hnl:(n:Int)≤l
 ·have ht:¬ l - (n:Int)<0:=by omega
  go_enter Tryzx.func29,Tryz.ntmps29;go_wp2;go_loopw [1,5] (fun m i wr=>∃ (k:Nat) (r:Int),k≤n∧i = .int .i64 k∧m = .int .i64 r∧0≤r∧r+(sumN L k:Int)≤l∧Below w.heap.size w wr∧Hid (∀ i,i<k→(rowN L i:Int)≤l)) (fun _ i _=>n - (intOf i).toNat)
  case atStart=>exact ⟨0,_,Nat.zero_le _,rfl,rfl,by omega,by simp [sumN]; omega,Below.refl _ _,Lib.hid (fun i hi=>absurd hi (by omega))⟩
  case round =>
   obtain ⟨k,r,hk,rfl,rfl,hr0,hr1,hb,HA⟩:=hrel;have HB:=Lib.hid hb;by_cases hlt:k<n
   ·obtain ⟨b,off,rfl,hbB,hc⟩:=H.out.2 (by omega)
    obtain ⟨Ak,ck,hx,hrec,hcc,hcm⟩:=hc k hlt;have hx0:wr.cell? ⟨b,off+k,none⟩=some (.slice Ak (rowN L k) ck):=(hb.cell (by exact hbB)).trans hx;have hmx:rowN L k≤9223372036854775807:=by unfold maxLen at hcm; omega
    clear hc hx hrec hb;by_cases hle:(rowN L k:Int)≤r
    ·have ht2:¬ r - (rowN L k:Int)<0:=by omega
     have HA':=Lib.hid (show ∀ i,i<k+1→(rowN L i:Int)≤l from fun i hi=>by
      by_cases hik:i=k
      ·subst hik; omega
      ·exact HA.out i (by omega))
     go_wp2_with fail
     refine (calls_below (szLoadS_ok _ _ _ _ _ hr0 (by omega) hmx hle)).mono ?_;rintro e w1 ⟨rfl,hb1⟩;have HB1:=Lib.hid (HB.out.trans (hb1.mono HB.out.size));clear hb1;go_wp2;go_roundw
     case rel=>exact ⟨k+1,_,by omega,by go_num,rfl,by omega,by simp only [sumN]; omega,HB1.out,HA'⟩
     case measure=>simp [intOf]; omega
    ·go_wp2_with fail
     refine (calls_below (szLoadS_no _ _ _ _ _ hr0 (by omega) hmx (by omega))).mono ?_;rintro e w1 ⟨rfl,hb1⟩;have HB1:=Lib.hid (HB.out.trans (hb1.mono HB.out.size));clear hb1;go_wp2;go_ret;exact szPost_no HB1.out
   ·obtain rfl:k=n:=by omega
    clear hb;go_wp2;go_ret;exact szPost_ok HB.out hr0 (by omega) hnl HA.out (by omega)
 ·have ht:l - (n:Int)<0:=by omega
  go_enter Tryzx.func29,Tryz.ntmps29;go_wp2;go_ret;exact szPost_no (Below.refl _ _)
set_option maxHeartbeats 800000 in
theorem eqLoadSS_same (A A':Option Addr) (n c c':Nat) (L:List (Nat × List Int)) (w:World) (hx:NestAt w w.heap.size 3 A n L) (hy:NestAt w w.heap.size 3 A' n L) (hn:n≤1048576) (hr:∀ i,i<n→rowN L i≤1048576) :
  Calls Tryzx.prog 34 #[.slice A n c,.slice A' n c'] w fun e w'=>e = .returned (.bool true)∧Below w.heap.size w w':=by
 have HX:=Lib.hid hx;have HY:=Lib.hid hy;have HR:=Lib.hid hr;clear hx hy hr;have ht:((n:Int) != (n:Int))=false:=by simp
 go_enter Tryzx.func34,Tryz.ntmps34;go_wp2;go_loopw [5] (fun i wr=>∃ k:Nat,k≤n∧i = .int .i64 k∧Below w.heap.size w wr) (fun i _=>n - (intOf i).toNat)
 case atStart=>exact ⟨0,Nat.zero_le _,rfl,Below.refl _ _⟩
 case round =>
  obtain ⟨k,hk,rfl,hb⟩:=hrel;have HB:=Lib.hid hb;by_cases hlt:k<n
  ·obtain ⟨b,off,rfl,hbB,hc⟩:=HX.out.2 (by omega)
   obtain ⟨b',off',rfl,hbB',hc'⟩:=HY.out.2 (by omega);obtain ⟨Ak,ck,hx,hrec,_,_⟩:=hc k hlt;obtain ⟨Ak',ck',hx',hrec',_,_⟩:=hc' k hlt;have cx0:wr.cell? ⟨b,off+k,none⟩=some (.slice Ak (rowN L k) ck):=(hb.cell (by exact hbB)).trans hx;have cy0:wr.cell? ⟨b',off'+k,none⟩=some (.slice Ak' (rowN L k) ck'):=(hb.cell (by exact hbB')).trans hx';have r1:=(hrec.below hb).mono hb.size;have r2:=(hrec'.below hb).mono hb.size;have hrk:=HR.out k hlt;have hz:=hb.size;have ki:(k:Int)<(n:Int):=by omega
   have k0:(0:Int)≤(k:Int):=by omega
   clear hc hc' hb hx hx' hrec hrec';go_wp2;go_region_held3 (fun w'=>w'.cell? ⟨b,off+k,none⟩=some (.slice Ak (rowN L k) ck)∧w'.cell? ⟨b',off'+k,none⟩=some (.slice Ak' (rowN L k) ck')) (first | (go_keep; done) | (refine ⟨?_,?_⟩ <;> (rw [hcc _ _ (by simp <;> omega)]; go_keep))) ((go_at_call 57; refine (eqLoadS_same _ _ _ _ _ (rowZ L k) _ (by exact r1) (by exact r2) hrk).mono ?_; rintro e w1 ⟨rfl,hb1⟩; obtain ⟨hcc,hff⟩:=bcell hb1));have HB1:=Lib.hid (HB.out.drew.trans (hb1.mono (by have:=HB.out.size; simp; omega)))
   clear hcc hff hb1;go_wp2;go_roundw
   case rel=>exact ⟨k+1,by omega,by go_num,HB1.out⟩
   case measure=>simp [intOf]; omega
  ·obtain rfl:k=n:=by omega
   clear hb;go_wp2;go_ret;exact ⟨rfl,HB.out⟩
end X
namespace X
open Go.RowKit
set_option maxHeartbeats 1600000 in
theorem markArchS_ty (lo hi g n c:Nat) (L:List (Nat × List Int)) (k0:Int) (w:World) (h:NestInts w lo hi g 45 110 4 n L) (hn:n≤1048576) (hs:sumN L n≤1048576) (hr:∀ i,i<n→rowN L i≤1048576) (h0:0≤k0) (h1:k0≤500000000) :
  Calls Tryzx.prog 47 #[.slice (some ⟨g,0,none⟩) n c,.int .i64 k0] w fun e w'=>e = .returned (.int .i64 (k0+(sumN L n*4:Nat)))∧Within lo hi w w'∧Turn lo 110 w w':=by
 have HS:=Lib.hid hs;have HR:=Lib.hid hr;have HM:=Lib.hid (fun k hk=>sumN_mono L (k:=k) (n:=n) hk);have H:=Lib.hid h;clear h hs hr;go_enter Tryzx.func47,Tryz.ntmps47;go_wp2;go_loopw [1,5] (fun m i wr=>∃ k:Nat,k≤n∧i = .int .i64 k∧m = .int .i64 (k0+(sumN L k*4:Nat))∧Hid (NestInts wr lo hi g 45 110 4 n L)∧Hid (Within lo hi w wr)∧Hid (Turn lo 110 w wr)) (fun _ i _=>n - (intOf i).toNat)
 case atStart=>exact ⟨0,Nat.zero_le _,rfl,by simp [sumN],H,Lib.hid (Within.refl _ _ _),Lib.hid (Turn.refl _ _ _)⟩
 case round =>
  clear H;obtain ⟨k,hk,rfl,rfl,HN,HW,HU⟩:=hrel;by_cases hlt:k<n
  ·obtain ⟨gk,fk,hc,hg1,hg2,hrow,hir⟩:=HN.out.get hlt
   have hsk:=HM.out k hk;have hss:=HS.out;have hrk:=HR.out k hlt;have HRW:=Lib.hid (And.intro hrow hir);clear hrow hir;go_wp2_with fail
   refine (markJointS_any gk _ _ fk _ _ HRW.out.1 HRW.out.2 hrk (by omega) (by omega)).mono ?_;rintro e w1 ⟨rfl,hrow1,hon⟩;have HN1:=Lib.hid (HN.out.only hg1 hon HRW.out.1 hrow1 (intRow_marks HRW.out.2 _ _));have HW1:=Lib.hid (HW.out.trans (Within.of_only hon (by have:=HN.out.low; omega) hg2))
   have HU1:=Lib.hid (HU.out.trans (Turn.of_only hon (RowF.of_row HRW.out.1) (by have:=HN.out.low; omega)))
   clear hrow1 hon hc;go_wp2;go_roundw
   case rel=>exact ⟨k+1,by omega,by go_num,by simp only [sumN]; congr 1; rw [Nat.add_mul]; omega,HN1,HW1,HU1⟩
   case measure=>simp [intOf]; omega
  ·obtain rfl:k=n:=by omega
   go_wp2;go_ret;exact ⟨rfl,HW.out,HU.out⟩
set_option maxHeartbeats 1600000 in
theorem markLoadSS_ty (lo hi g n c:Nat) (L:List (Nat × List Int)) (k0:Int) (w:World) (h:NestInts w lo hi g 46 77 3 n L) (hn:n≤1048576) (hs:sumN L n≤1048576) (hr:∀ i,i<n→rowN L i≤1048576) (h0:0≤k0) (h1:k0≤500000000) :
  Calls Tryzx.prog 48 #[.slice (some ⟨g,0,none⟩) n c,.int .i64 k0] w fun e w'=>e = .returned (.int .i64 (k0+(sumN L n*3:Nat)))∧Within lo hi w w'∧Turn lo 77 w w':=by
 have HS:=Lib.hid hs;have HR:=Lib.hid hr;have HM:=Lib.hid (fun k hk=>sumN_mono L (k:=k) (n:=n) hk);have H:=Lib.hid h;clear h hs hr;go_enter Tryzx.func48,Tryz.ntmps48;go_wp2;go_loopw [1,5] (fun m i wr=>∃ k:Nat,k≤n∧i = .int .i64 k∧m = .int .i64 (k0+(sumN L k*3:Nat))∧Hid (NestInts wr lo hi g 46 77 3 n L)∧Hid (Within lo hi w wr)∧Hid (Turn lo 77 w wr)) (fun _ i _=>n - (intOf i).toNat)
 case atStart=>exact ⟨0,Nat.zero_le _,rfl,by simp [sumN],H,Lib.hid (Within.refl _ _ _),Lib.hid (Turn.refl _ _ _)⟩
 case round =>
  clear H;obtain ⟨k,hk,rfl,rfl,HN,HW,HU⟩:=hrel;by_cases hlt:k<n
  ·obtain ⟨gk,fk,hc,hg1,hg2,hrow,hir⟩:=HN.out.get hlt
   have hsk:=HM.out k hk;have hss:=HS.out;have hrk:=HR.out k hlt;have HRW:=Lib.hid (And.intro hrow hir);clear hrow hir;go_wp2_with fail
   refine (markLoadS_any gk _ _ fk _ _ HRW.out.1 HRW.out.2 hrk (by omega) (by omega)).mono ?_;rintro e w1 ⟨rfl,hrow1,hon⟩;have HN1:=Lib.hid (HN.out.only hg1 hon HRW.out.1 hrow1 (intRow_marks HRW.out.2 _ _));have HW1:=Lib.hid (HW.out.trans (Within.of_only hon (by have:=HN.out.low; omega) hg2))
   have HU1:=Lib.hid (HU.out.trans (Turn.of_only hon (RowF.of_row HRW.out.1) (by have:=HN.out.low; omega)))
   clear hrow1 hon hc;go_wp2;go_roundw
   case rel=>exact ⟨k+1,by omega,by go_num,by simp only [sumN]; congr 1; rw [Nat.add_mul]; omega,HN1,HW1,HU1⟩
   case measure=>simp [intOf]; omega
  ·obtain rfl:k=n:=by omega
   go_wp2;go_ret;exact ⟨rfl,HW.out,HU.out⟩
end X
end Go.Proofs.YtjcgklifabcfkaaGreat
