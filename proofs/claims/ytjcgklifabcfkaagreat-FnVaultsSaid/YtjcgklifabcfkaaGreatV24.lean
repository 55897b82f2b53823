/-
  Texts that the law stands on, part 24.
-/
import Derived.Test.YtjcgklifabcfkaaGreatV23
set_option maxRecDepth 100000
set_option linter.unusedVariables false
set_option linter.unusedSimpArgs false
set_option maxHeartbeats 12800000
namespace Go.Proofs.YtjcgklifabcfkaaGreat
namespace X
open Go.RowKit
theorem rowF_new3S (w:World) (a b c:Int) (T:TypeId):RowF (w.alloc (.cells #[.int .i64 a,.int .i64 b,.int .i64 c] T)) w.heap.size T 3 (ints [a,b,c]) :=
 RowF.of_row (World.rowIs_alloc w #[.int .i64 a,.int .i64 b,.int .i64 c] T _ (fun j hj=>by simp at hj; match j,hj with | 0,_=>rfl | 1,_=>rfl | 2,_=>rfl))
def shOk (L:List (Nat × List Int)) (n:Nat) (M:List (Nat × List Int)) (q:Nat) (wt:Int):Bool:=vaultB L n M q && inB wt 0 50000
def shNew (L M:List (Nat × List Int)) (n:Nat) (wt x:Int):List (Nat × List Int):=shTo L M n (Int.tdiv wt n) x n
def shB (L:List (Nat × List Int)) (n:Nat) (M:List (Nat × List Int)) (q:Nat) (wt x:Int):Bool:=shOk L n M q wt && vaultB L n (shNew L M n wt x) n
def shM (L:List (Nat × List Int)) (n:Nat) (M:List (Nat × List Int)) (q:Nat) (wt x:Int):List (Nat × List Int):=if shB L n M q wt x=true then shNew L M n wt x else M
section
variable {L : List (Nat × List Int)} {n : Nat} {M : List (Nat × List Int)} {q : Nat} {wt : Int} (x : Int)
theorem sh_1 (h:vaultB L n M q=false):shB L n M q wt x=false/\shM L n M q wt x=M:=by simp [shM,shB,shOk,h]
theorem sh_2 (h:inB wt 0 50000=false):shB L n M q wt x=false/\shM L n M q wt x=M:=by simp [shM,shB,shOk,h]
theorem sh_3 (h1:vaultB L n M q=true) (h2:inB wt 0 50000=true) (h:vaultB L n (shNew L M n wt x) n=false):shB L n M q wt x=false/\shM L n M q wt x=M:=by simp [shM,shB,shOk,h1,h2,h]
theorem sh_t (h1:vaultB L n M q=true) (h2:inB wt 0 50000=true) (h:vaultB L n (shNew L M n wt x) n=true):shB L n M q wt x=true/\shM L n M q wt x=shNew L M n wt x:=by simp [shM,shB,shOk,h1,h2,h]
end
def ShPost (w:World) (n:Nat) (L:List (Nat × List Int)) (q:Nat) (M:List (Nat × List Int)) (wt x:Int) (e:Ending) (w':World):Prop :=
 ∃ vR vL csR csL,e = .returned (.tuple #[.agg #[vR,vL],.bool (shB L n M q wt x)])/\GN w' w.heap.size 45 110 4 vR n csR L/\GN w' w.heap.size 46 77 3 vL q csL (shM L n M q wt x)/\Below w.heap.size w w'
structure ShSt (w wr:World) (X gA n cA gB q cB:Nat) (L M:List (Nat × List Int)) (vR vL:Value) (csR csL:List Value):Prop where
 arg:RowF wr w.heap.size 31 2 (pairV (.slice (some ⟨gA,0,none⟩) n cA) (.slice (some ⟨gB,0,none⟩) q cB))
 res:RowF wr (w.heap.size+1) 31 2 (pairV (.slice none 0 0) (.slice none 0 0))
 out:RowF wr X 31 2 (pairV vR vL)
 ribs:GN wr (w.heap.size+2) 45 110 4 vR n csR L
 loads:GN wr (w.heap.size+2) 46 77 3 vL q csL M
 far:w.heap.size+1<X
 below:Below w.heap.size w wr
section
variable {w wr w' : World} {X gA n cA gB q cB : Nat} {L M M' : List (Nat × List Int)} {vR vL : Value} {csR csL : List Value}
theorem ShSt.after (h:ShSt w wr X gA n cA gB q cB L M vR vL csR csL) (hb:Below wr.heap.size wr w'):ShSt w w' X gA n cA gB q cB L M vR vL csR csL :=
 ⟨h.arg.after hb,h.res.after hb,h.out.after hb,h.ribs.after hb,h.loads.after hb,h.far,h.below.trans (hb.mono h.below.size)⟩
theorem ShSt.step {wy wz:World} {gL c k:Nat} {u:Value} {g' m' c':Nat} {zs':List Int} (h:ShSt w wr X gA n cA gB q cB L M vR (.slice (some ⟨gL,0,none⟩) q c) csR csL) (hb:Below wr.heap.size wr wy) (hk:k<q) (hu:csL[k]?=some u)
  (ho:OwnR wz (w.heap.size+2) 77 3 (.slice (some ⟨g',0,none⟩) m' c') m' zs') (ha:AppRes wy wz (w.heap.size+2) u (.slice (some ⟨g',0,none⟩) m' c'))
  (e1:rowN M' k=m'/\rowZ M' k=zs') (e2:∀ i,i<q->i ≠ k->rowN M' i=rowN M i/\rowZ M' i=rowZ M i) :
  ShSt w (wz.setCell ⟨gL,k,none⟩ (.slice (some ⟨g',0,none⟩) m' c')) X gA n cA gB q cB L M' vR (.slice (some ⟨gL,0,none⟩) q c) csR (csL.set k (.slice (some ⟨g',0,none⟩) m' c')):=by
 have hy:=h.after hb;obtain ⟨gu,cu,hu1,hur⟩:=hy.loads.row k hk;rw [hu] at hu1;simp at hu1;subst hu1;obtain ⟨cc,hcT⟩:=hy.loads.cells.typeAt gL rfl;obtain ⟨c2,hcU⟩:=hur.typeAt gu rfl;obtain ⟨c3,hcX,_⟩:=hy.out;have hgL2:=hy.loads.cells.ownLt gL rfl;have hXlt:=RowF.lt hy.out;have hXu:X ≠ gu:=fun e=>by
  subst e;rw [hcU] at hcX;simp at hcX
 have hXL:X ≠ gL:=fun e=>by
  subst e;rw [hcT] at hcX;simp at hcX
 have hgz:wz.heap[gL]?=some (.cells cc 46):=by
  rw [ha.stay gL (Array.getElem?_eq_some_iff.1 hcT).1 (fun e=>by
   simp [Value.ownBlock] at e;subst e;rw [hcU] at hcT;simp at hcT)]
  exact hcT
 have hz:w.heap.size+2<=wy.heap.size:=by have:=hb.size; have:=RowF.lt h.out; have:=h.far; omega
 refine ⟨(RowF.below hy.arg ha.below (by omega)).set_other (by simp; omega) _,(RowF.below hy.res ha.below (by omega)).set_other (by simp; omega) _,(RowF.of_block hy.out (ha.stay X hXlt (fun e=>by simp [Value.ownBlock] at e; exact hXu e.symm))).set_other (by simpa using hXL) _,?_,?_,h.far,(hy.below.trans (ha.below.mono (by omega))).setCell (by simp; omega) _⟩
 ·exact (hy.ribs.beside ha (X:=77) (fun g hg=>hur.typeAt g hg) (by decide) (by decide)).setCell (p:=⟨gL,k,none⟩) hgz (by decide) (by decide) _
 ·exact GN.replace hy.loads (by decide) hk hu ho ha e1 e2
theorem ShSt.three {gL c k gu cu:Nat} (h:ShSt w wr X gA n cA gB q cB L M vR (.slice (some ⟨gL,0,none⟩) q c) csR csL) (hk:k<q) (hu:csL[k]?=some (.slice (some ⟨gu,0,none⟩) (rowN M k) cu)):gu ≠ X/\gL ≠ X/\gu ≠ gL/\gu<wr.heap.size/\gL<wr.heap.size/\X<wr.heap.size:=by
 obtain ⟨g2,c2,hu1,hur⟩:=h.loads.row k hk;rw [hu] at hu1;simp at hu1;obtain ⟨rfl,rfl⟩:=hu1;obtain ⟨cc,hcT⟩:=h.loads.cells.typeAt gL rfl;obtain ⟨c3,hcU⟩:=hur.typeAt gu rfl;obtain ⟨c4,hcX,_⟩:=h.out;refine ⟨fun e => ?_,fun e => ?_,fun e => ?_,(Array.getElem?_eq_some_iff.1 hcU).1,(Array.getElem?_eq_some_iff.1 hcT).1,RowF.lt h.out⟩
 ·subst e
  rw [hcU] at hcX;simp at hcX
 ·subst e
  rw [hcT] at hcX;simp at hcX
 ·subst e
  rw [hcU] at hcT;simp at hcT
end
theorem iShareG_any (gA n cA gB q cB:Nat) (L M:List (Nat × List Int)) (wt x:Int) (w:World) (hA:NestG w gA 45 110 4 n L) (hn:n<=1048576) (hr:∀ i,i<n->rowN L i<=1048576) (hlA:∀ i,i<n->(rowZ L i).length=rowN L i*4) (hL:L.length=n)
  (hB:NestG w gB 46 77 3 q M) (hq:q<=1048576) (hs:∀ i,i<q->rowN M i<=1048576) (hlB:∀ i,i<q->(rowZ M i).length=rowN M i*3) (hM:M.length=q) :
  Calls Tryzx.prog 19 #[.agg #[.slice (some ⟨gA,0,none⟩) n cA,.slice (some ⟨gB,0,none⟩) q cB],.int .i64 wt,.int .i64 x] w (ShPost w n L q M wt x):=by
 have b0:Below w.heap.size w ((w.alloc (.cells #[.slice (some ⟨gA,0,none⟩) n cA,.slice (some ⟨gB,0,none⟩) q cB] 31)).alloc (.cells #[.slice none 0 0,.slice none 0 0] 31)):=(bnw _ _).alloc (by simp) _;have HA0:=q_ (hA.after b0);have HN0:=q_ (hB.after b0);have HA:=q_ hA;have HB:=q_ hB;have HR:=q_ (And.intro (And.intro hr hlA) hL);have HT:=q_ (And.intro (And.intro hs hlB) hM);have HG0:Hid (RowF ((w.alloc (.cells #[.slice (some ⟨gA,0,none⟩) n cA,.slice (some ⟨gB,0,none⟩) q cB] 31)).alloc (.cells #[.slice none 0 0,.slice none 0 0] 31)) w.heap.size 31 2 (pairV (.slice (some ⟨gA,0,none⟩) n cA) (.slice (some ⟨gB,0,none⟩) q cB))):=q_ ((RowF.of_row (row_pair w _ _ _)).alloc _);have HV0:Hid (RowF ((w.alloc (.cells #[.slice (some ⟨gA,0,none⟩) n cA,.slice (some ⟨gB,0,none⟩) q cB] 31)).alloc (.cells #[.slice none 0 0,.slice none 0 0] 31)) (w.heap.size+1) 31 2 (pairV (.slice none 0 0) (.slice none 0 0))):=q_ (by
  have h:=RowF.of_row (row_pair (w.alloc (.cells #[.slice (some ⟨gA,0,none⟩) n cA,.slice (some ⟨gB,0,none⟩) q cB] 31)) (.slice none 0 0) (.slice none 0 0) 31);simp only [World.size_alloc] at h;exact h)
 have HB0:=q_ b0;have HZ0:Hid (((w.alloc (.cells #[.slice (some ⟨gA,0,none⟩) n cA,.slice (some ⟨gB,0,none⟩) q cB] 31)).alloc (.cells #[.slice none 0 0,.slice none 0 0] 31)).heap.size=w.heap.size+2):=q_ (by simp);clear b0 hA hB hr hlA hs hlB hL hM;go_enter Tryzx.func19,Tryz.ntmps19;go_wp2_with fail
 refine (iCopyVaultG_any gA n cA gB q cB L M _ HA0.out hn HR.out.1.1 HR.out.1.2 HN0.out hq HT.out.1.1 HT.out.1.2).mono ?_;rintro e w1 ⟨vR,vL,csR,csL,rfl,hgr,hgl,hb1⟩;have HS2:Hid (ShSt w (w1.alloc (.cells #[vR,vL] 31)) w1.heap.size gA n cA gB q cB L M vR vL csR csL):=q_ (by
  have ba:Below w1.heap.size w1 (w1.alloc (.cells #[vR,vL] 31)):=bnw _ _;have hz:=hb1.size;rw [HZ0.out] at hz hgr hgl;exact ⟨(HG0.out.after hb1).after ba,(HV0.out.after hb1).after ba,RowF.of_row (row_pair w1 vR vL _),hgr.after ba,hgl.after ba,by omega,below_then (below_then HB0.out hb1) ba⟩)
 obtain ⟨X,hX⟩:∃ X,w1.heap.size=X:=⟨_,rfl⟩;rw [hX] at HS2;have HXE:=q_ hX;obtain ⟨A1,c1,rfl,_⟩:=hgr.cells.slice;obtain ⟨A2,c2,rfl,_⟩:=hgl.cells.slice;have HN2:Hid (NestG (w1.alloc (.cells #[.slice A1 n c1,.slice A2 q c2] 31)) gA 45 110 4 n L/\NestG (w1.alloc (.cells #[.slice A1 n c1,.slice A2 q c2] 31)) gB 46 77 3 q M):=q_ ⟨HA.out.after HS2.out.below,HB.out.after HS2.out.below⟩;have HD2:Hid (NestAt (w1.alloc (.cells #[.slice A1 n c1,.slice A2 q c2] 31)) (w1.alloc (.cells #[.slice A1 n c1,.slice A2 q c2] 31)).heap.size 4 (some ⟨gA,0,none⟩) n L/\NestAt (w1.alloc (.cells #[.slice A1 n c1,.slice A2 q c2] 31)) (w1.alloc (.cells #[.slice A1 n c1,.slice A2 q c2] 31)).heap.size 3 (some ⟨gB,0,none⟩) q M):=q_ ⟨HN2.out.1.nestAt HR.out.2 HR.out.1.2 HR.out.1.1,HN2.out.2.nestAt HT.out.2 HT.out.1.2 HT.out.1.1⟩;clear hgr hgl hb1 HA0 HN0 HG0 HV0 HB0 HZ0 hX;have a0:(w1.alloc (.cells #[.slice A1 n c1,.slice A2 q c2] 31)).cell? ⟨w.heap.size,0,none⟩=some (.slice (some ⟨gA,0,none⟩) n cA):=HS2.out.arg.cell (i:=0) (by omega);have a1:(w1.alloc (.cells #[.slice A1 n c1,.slice A2 q c2] 31)).cell? ⟨w.heap.size,1,none⟩=some (.slice (some ⟨gB,0,none⟩) q cB):=HS2.out.arg.cell (i:=1) (by omega);go_wp2_with fail
 refine (iVaultOk_any _ _ _ L _ _ _ M _ HD2.out.1 (by omega) HR.out.1.1 HD2.out.2 (by omega) HT.out.1.1).mono ?_;clear a0 a1;cases hV:vaultB L n M q
 ·have HF:=q_ (sh_1 (wt:=wt) x hV)
  rintro e w3 ⟨rfl,hb3⟩;have HS3:=q_ (HS2.out.after hb3);clear hb3 HS2 HN2 HD2;have d0:w3.cell? ⟨w1.heap.size,0,none⟩=some (.slice A1 n c1):=by rw [HXE.out]; exact HS3.out.out.cell (i:=0) (by omega)
  have d1:w3.cell? ⟨w1.heap.size,1,none⟩=some (.slice A2 q c2):=by rw [HXE.out]; exact HS3.out.out.cell (i:=1) (by omega)
  have r0:w3.cell? ⟨w.heap.size+1,0,none⟩=some (.slice none 0 0):=HS3.out.res.cell (i:=0) (by omega);have r1:w3.cell? ⟨w.heap.size+1,1,none⟩=some (.slice none 0 0):=HS3.out.res.cell (i:=1) (by omega);have f0:=HS3.out.res.frozen 0;have f1:=HS3.out.res.frozen 1;have hs:=RowF.lt HS3.out.res;go_wp2;refine bodyPost_ret (v := .tuple #[.agg #[.slice A1 n c1,.slice A2 q c2],.bool false]) (by simp [results,Tryz.results19,go_sem, *]) rfl ?_;exact ⟨.slice A1 n c1,.slice A2 q c2,csR,csL,by rw [HF.out.1],((HS3.out.ribs.setLow (by simp) _).setLow (by simp) _).mono (by omega),by rw [HF.out.2]; exact ((HS3.out.loads.setLow (by simp) _).setLow (by simp) _).mono (by omega),(HS3.out.below.setCell (by simp) _).setCell (by simp) _⟩
 cases hI:inB wt 0 50000
 ·have HF:=q_ (sh_2 (L:=L) (n:=n) (M:=M) (q:=q) x hI)
  rintro e w3 ⟨rfl,hb3⟩;have HS3:=q_ (HS2.out.after hb3);clear hb3 HS2 HN2 HD2;have d0:w3.cell? ⟨w1.heap.size,0,none⟩=some (.slice A1 n c1):=by rw [HXE.out]; exact HS3.out.out.cell (i:=0) (by omega)
  have d1:w3.cell? ⟨w1.heap.size,1,none⟩=some (.slice A2 q c2):=by rw [HXE.out]; exact HS3.out.out.cell (i:=1) (by omega)
  have r0:w3.cell? ⟨w.heap.size+1,0,none⟩=some (.slice none 0 0):=HS3.out.res.cell (i:=0) (by omega);have r1:w3.cell? ⟨w.heap.size+1,1,none⟩=some (.slice none 0 0):=HS3.out.res.cell (i:=1) (by omega);have f0:=HS3.out.res.frozen 0;have f1:=HS3.out.res.frozen 1;have hs:=RowF.lt HS3.out.res;go_wp2_with (go_at_call 43; refine (within_any _ _ _ _).mono ?_; rw [hI]; rintro e w' ⟨rfl,rfl⟩);refine bodyPost_ret (v := .tuple #[.agg #[.slice A1 n c1,.slice A2 q c2],.bool false]) (by simp [results,Tryz.results19,go_sem, *]) rfl ?_;exact ⟨.slice A1 n c1,.slice A2 q c2,csR,csL,by rw [HF.out.1],((HS3.out.ribs.setLow (by simp) _).setLow (by simp) _).mono (by omega),by rw [HF.out.2]; exact ((HS3.out.loads.setLow (by simp) _).setLow (by simp) _).mono (by omega),(HS3.out.below.setCell (by simp) _).setCell (by simp) _⟩
 obtain ⟨hn5,hqn,hrib⟩:=vaultB_out hV;obtain rfl:n=q:=hqn.symm;obtain ⟨gR,rfl⟩:=HS2.out.ribs.ex (by omega);obtain ⟨gL,rfl⟩:=HS2.out.loads.ex (by omega);obtain ⟨wq,ewq⟩:∃ wq,Int.tdiv wt (n:Int)=wq:=⟨_,rfl⟩;have hwt:=inB_iff.1 hI;have hwq:0<=wq/\wq<=50000:=by
  rw [<- ewq];have h1:Int.tdiv wt (n:Int)=wt / (n:Int):=Int.tdiv_eq_ediv_of_nonneg hwt.1;rw [h1];exact ⟨Int.ediv_nonneg hwt.1 (by omega),Int.le_trans (Int.ediv_le_self _ hwt.1) hwt.2⟩
 have e5:IntKind.i64.wrap (Int.tdiv wt (n:Int))=wq:=by rw [ewq]; exact iW (by omega)
 have nz:¬ (n:Int)=0:=by omega
 have nz2:¬ n=0:=by omega
 have HNEW:Hid (shNew L M n wt x=shTo L M n wq x n):=q_ (by rw [shNew,ewq]);have HF3:=q_ (fun h=>sh_3 (L:=L) (n:=n) (M:=M) (q:=n) x hV hI h);have HFT:=q_ (fun h=>sh_t (L:=L) (n:=n) (M:=M) (q:=n) x hV hI h);rw [HNEW.out] at HF3 HFT;have HRIB:=q_ hrib;clear ewq hrib HD2 HN2;rintro e w3 ⟨rfl,hb3⟩;have HS3:Hid (ShSt w w3 X gA n cA gB n cB L (shTo L M n wq x 0) (.slice (some ⟨gR,0,none⟩) n c1) (.slice (some ⟨gL,0,none⟩) n c2) csR csL):=q_ (by
  have h:=HS2.out.after hb3;exact ⟨h.arg,h.res,h.out,h.ribs,h.loads.congr (fun i hi=>shTo_ge hi (by omega)),h.far,h.below⟩)
 clear hb3 HS2;have d0:w3.cell? ⟨w1.heap.size,0,none⟩=some (.slice (some ⟨gR,0,none⟩) n c1):=by rw [HXE.out]; exact HS3.out.out.cell (i:=0) (by omega)
 go_wp2_with (go_at_call 43; refine (within_any _ _ _ _).mono ?_; rw [hI]; rintro e w' ⟨rfl,rfl⟩);have hX:=HXE.out;rw [hX];clear hX HXE d0;go_loopw [25] (fun v25 wr=>∃ (k:Nat) (csL:List Value),v25 = .int .i64 k/\k<=n/\Hid (ShSt w wr X gA n cA gB n cB L (shTo L M n wq x k) (.slice (some ⟨gR,0,none⟩) n c1) (.slice (some ⟨gL,0,none⟩) n c2) csR csL)) (fun v25 _=>n - (intOf v25).toNat)
 case atStart=>exact ⟨0,csL,rfl,Nat.zero_le _,HS3⟩
 case round =>
  clear HS3 csL;obtain ⟨k,csL,rfl,hk,HS⟩:=hrel;have hX2:=HS.out.far;have hXl:=RowF.lt HS.out.out;have o0:wr.cell? ⟨X,0,none⟩=some (.slice (some ⟨gR,0,none⟩) n c1):=HS.out.out.cell (i:=0) (by omega);have o1:wr.cell? ⟨X,1,none⟩=some (.slice (some ⟨gL,0,none⟩) n c2):=HS.out.out.cell (i:=1) (by omega);by_cases hlt:k<n
  ·have kn:(k:Int)<(n:Int):=by omega
   have k0:(0:Int)<=(k:Int):=by omega
   have ek:IntKind.i64.wrap ((k:Int)+1)=(k:Int)+1:=iW (by omega);obtain ⟨gi,ci,hci,hori⟩:=HS.out.ribs.row k hlt;obtain ⟨gu,cu,hcu,horu⟩:=HS.out.loads.row k hlt;have x0:wr.cell? ⟨gR,k,none⟩=some (.slice (some ⟨gi,0,none⟩) (rowN L k) ci):=(HS.out.ribs.cellAt hlt).trans hci;have u0:wr.cell? ⟨gL,k,none⟩=some (.slice (some ⟨gu,0,none⟩) (rowN (shTo L M n wq x k) k) cu):=(HS.out.loads.cellAt hlt).trans hcu;obtain ⟨t1,t2,t3,t4,t5,t6⟩:=HS.out.three hlt hcu;have hRl:gR<wr.heap.size:=HS.out.ribs.cells.blockLt gR rfl;have hMk:=shTo_ge (L:=L) (M:=M) (wq:=wq) (x:=x) hlt (Nat.lt_irrefl k);have hNk:=shTo_lt (L:=L) (M:=M) (wq:=wq) (x:=x) (k:=k+1) hlt (Nat.lt_succ_self k);obtain ⟨hza,hq6,_⟩:=loadsB_out (HRIB.out k hlt);have hz3:=(archB_out hza).1;have hbx:Below wr.heap.size wr (wr.alloc (.cells #[.slice (some ⟨gi,0,none⟩) (rowN L k) ci] 45)).drew:=below_dr2 (bnw _ _);have HBX:=q_ hbx;have HSX:=q_ (HS.out.after hbx);have HRX:=q_ (hori.recs.after hbx);have HCU:=q_ hcu;have HMK:=q_ hMk;have HNK:=q_ hNk;have p0:(wr.alloc (.cells #[.slice (some ⟨gi,0,none⟩) (rowN L k) ci] 45)).drew.cell? ⟨X,0,none⟩=some (.slice (some ⟨gR,0,none⟩) n c1):=(hbx.cell (p:=⟨X,0,none⟩) (by exact t6)).trans o0;have p1:(wr.alloc (.cells #[.slice (some ⟨gi,0,none⟩) (rowN L k) ci] 45)).drew.cell? ⟨X,1,none⟩=some (.slice (some ⟨gL,0,none⟩) n c2):=(hbx.cell (p:=⟨X,1,none⟩) (by exact t6)).trans o1;have pb:(wr.alloc (.cells #[.slice (some ⟨gi,0,none⟩) (rowN L k) ci] 45)).drew.cell? ⟨wr.heap.size,0,none⟩=some (.slice (some ⟨gi,0,none⟩) (rowN L k) ci):=(rowF_new1S wr _ _).cell (i:=0) (by omega);have pu:(wr.alloc (.cells #[.slice (some ⟨gi,0,none⟩) (rowN L k) ci] 45)).drew.cell? ⟨gL,k,none⟩=some (.slice (some ⟨gu,0,none⟩) (rowN (shTo L M n wq x k) k) cu):=(hbx.cell (p:=⟨gL,k,none⟩) (by exact t5)).trans u0;have HWZ:Hid ((wr.alloc (.cells #[.slice (some ⟨gi,0,none⟩) (rowN L k) ci] 45)).drew.heap.size=wr.heap.size+1):=q_ (by simp);have hrm:rowN (shTo L M n wq x k) k<=6:=by rw [hMk.1]; exact hq6
   clear hbx hori horu hcu hci u0 hMk hNk hza hq6;go_wp2;refine wp_region_held_drew (S:=fun w'=>(w'.cell? ⟨X,0,none⟩=some (.slice (some ⟨gR,0,none⟩) n c1)/\w'.cell? ⟨X,1,none⟩=some (.slice (some ⟨gL,0,none⟩) n c2))/\w'.cell? ⟨wr.heap.size,0,none⟩=some (.slice (some ⟨gi,0,none⟩) (rowN L k) ci)) (by kernel_rfl) (by exact ⟨⟨p0,p1⟩,pb⟩) (fun hHeld => ?_);refine tk 0 30 rfl rfl ?_;try simp only [Act.put,ly3]
   refine tk 1 31 rfl rfl ?_;try simp only [Act.put,ly3]
   refine tk 2 32 rfl rfl ?_;try simp only [Act.put,ly3]
   refine tk 3 33 rfl rfl ?_;try simp only [Act.put,ly3]
   refine tk 4 34 rfl rfl ?_;try simp only [Act.put,ly3]
   refine tk 5 35 rfl rfl ?_;try simp only [Act.put,ly3]
   refine tk 6 36 rfl rfl ?_;try simp only [Act.put,ly3]
   refine tk 8 38 rfl rfl ?_;try simp only [Act.put,ly3]
   refine tk 9 39 rfl rfl ?_;try simp only [Act.put,ly3]
   refine tk 11 41 rfl rfl ?_;try simp only [Act.put,ly3]
   refine tk 12 42 rfl rfl ?_;try simp only [Act.put,ly3]
   refine tk 13 43 rfl rfl ?_;try simp only [Act.put,ly3]
   refine tk 14 44 rfl rfl ?_;try simp only [Act.put,ly3]
   refine tk 15 45 rfl rfl ?_;try simp only [Act.put,ly3]
   refine tk 16 46 rfl rfl ?_;try simp only [Act.put,ly3]
   refine rd2 7 10 rfl rfl (fun K hK=>?_) fun K hK=>?_;rotate_left
   go_simp
   (with_reducible refine (stoneUnder_any _ _ _ (rowZ L k) _ _ HRX.out (by omega) (by omega)).mono ?_)
   rintro e w4 ⟨rfl,hb4⟩;have HB4:=q_ hb4;have HS4:=q_ (HSX.out.after hb4);have hz4:wr.heap.size+1<=w4.heap.size:=by have:=hb4.size; rw [HWZ.out] at this; exact this
   have u4:w4.cell? ⟨gL,k,none⟩=some (.slice (some ⟨gu,0,none⟩) (rowN (shTo L M n wq x k) k) cu):=(hb4.cell (p:=⟨gL,k,none⟩) (by rw [HWZ.out]; simp; omega)).trans pu
   have q4:(w4.cell? ⟨X,0,none⟩=some (.slice (some ⟨gR,0,none⟩) n c1)/\w4.cell? ⟨X,1,none⟩=some (.slice (some ⟨gL,0,none⟩) n c2))/\w4.cell? ⟨wr.heap.size,0,none⟩=some (.slice (some ⟨gi,0,none⟩) (rowN L k) ci):=⟨⟨(hb4.cell (p:=⟨X,0,none⟩) (by rw [HWZ.out]; simp; omega)).trans p0,(hb4.cell (p:=⟨X,1,none⟩) (by rw [HWZ.out]; simp; omega)).trans p1⟩,(hb4.cell (p:=⟨wr.heap.size,0,none⟩) (by rw [HWZ.out]; simp)).trans pb⟩
   refine hK.out _ _ (by exact q4) (fun hHeld => ?_);clear hK K;try simp only [Act.put,ly3]
   refine tk 17 47 rfl rfl ?_;try simp only [Act.put,ly3]
   refine rd2 7 18 rfl rfl (fun K hK=>?_) fun K hK=>?_;rotate_left
   go_simp
   have u5:(w4.alloc (.cells #[.int .i64 (stoneU (rowZ L k) (rowN L k) x:Int),.int .i64 wq,.int .i64 x] 77)).cell? ⟨gL,k,none⟩=some (.slice (some ⟨gu,0,none⟩) (rowN (shTo L M n wq x k) k) cu):=(World.cell?_alloc_lt w4 _ ⟨gL,k,none⟩ (show gL<w4.heap.size from by omega)).trans u4;have q5:((w4.alloc (.cells #[.int .i64 (stoneU (rowZ L k) (rowN L k) x:Int),.int .i64 wq,.int .i64 x] 77)).cell? ⟨X,0,none⟩=some (.slice (some ⟨gR,0,none⟩) n c1)/\(w4.alloc (.cells #[.int .i64 (stoneU (rowZ L k) (rowN L k) x:Int),.int .i64 wq,.int .i64 x] 77)).cell? ⟨X,1,none⟩=some (.slice (some ⟨gL,0,none⟩) n c2))/\(w4.alloc (.cells #[.int .i64 (stoneU (rowZ L k) (rowN L k) x:Int),.int .i64 wq,.int .i64 x] 77)).cell? ⟨wr.heap.size,0,none⟩=some (.slice (some ⟨gi,0,none⟩) (rowN L k) ci):=⟨⟨(World.cell?_alloc_lt w4 _ ⟨X,0,none⟩ (show X<w4.heap.size from by omega)).trans q4.1.1,(World.cell?_alloc_lt w4 _ ⟨X,1,none⟩ (show X<w4.heap.size from by omega)).trans q4.1.2⟩,(World.cell?_alloc_lt w4 _ ⟨wr.heap.size,0,none⟩ (show wr.heap.size<w4.heap.size from by omega)).trans q4.2⟩;refine hK.out _ _ (by exact q5) (fun hHeld => ?_);clear hK K;try simp only [Act.put,ly3]
   refine rd1 7 rfl fun K hK=>?_;go_simp
   refine hK.out _ _ (by exact q5) (fun hHeld => ?_);clear hK K;try simp only [Act.put,ly3]
   rotate_left
   go_simp
   refine hK.out _ _ (by exact ⟨⟨p0,p1⟩,pb⟩) (fun hHeld => ?_);clear hK K;try simp only [Act.put,ly3]
   refine rd1 10 rfl fun K hK=>?_;go_simp
   (with_reducible refine (stoneUnder_any _ _ _ (rowZ L k) _ _ HRX.out (by omega) (by omega)).mono ?_)
   rintro e w4 ⟨rfl,hb4⟩;have HB4:=q_ hb4;have HS4:=q_ (HSX.out.after hb4);have hz4:wr.heap.size+1<=w4.heap.size:=by have:=hb4.size; rw [HWZ.out] at this; exact this
   have u4:w4.cell? ⟨gL,k,none⟩=some (.slice (some ⟨gu,0,none⟩) (rowN (shTo L M n wq x k) k) cu):=(hb4.cell (p:=⟨gL,k,none⟩) (by rw [HWZ.out]; simp; omega)).trans pu
   have q4:(w4.cell? ⟨X,0,none⟩=some (.slice (some ⟨gR,0,none⟩) n c1)/\w4.cell? ⟨X,1,none⟩=some (.slice (some ⟨gL,0,none⟩) n c2))/\w4.cell? ⟨wr.heap.size,0,none⟩=some (.slice (some ⟨gi,0,none⟩) (rowN L k) ci):=⟨⟨(hb4.cell (p:=⟨X,0,none⟩) (by rw [HWZ.out]; simp; omega)).trans p0,(hb4.cell (p:=⟨X,1,none⟩) (by rw [HWZ.out]; simp; omega)).trans p1⟩,(hb4.cell (p:=⟨wr.heap.size,0,none⟩) (by rw [HWZ.out]; simp)).trans pb⟩
   refine hK.out _ _ (by exact q4) (fun hHeld => ?_);clear hK K;try simp only [Act.put,ly3]
   refine tk 17 47 rfl rfl ?_;try simp only [Act.put,ly3]
   refine rd1 18 rfl fun K hK=>?_;go_simp
   have u5:(w4.alloc (.cells #[.int .i64 (stoneU (rowZ L k) (rowN L k) x:Int),.int .i64 wq,.int .i64 x] 77)).cell? ⟨gL,k,none⟩=some (.slice (some ⟨gu,0,none⟩) (rowN (shTo L M n wq x k) k) cu):=(World.cell?_alloc_lt w4 _ ⟨gL,k,none⟩ (show gL<w4.heap.size from by omega)).trans u4;have q5:((w4.alloc (.cells #[.int .i64 (stoneU (rowZ L k) (rowN L k) x:Int),.int .i64 wq,.int .i64 x] 77)).cell? ⟨X,0,none⟩=some (.slice (some ⟨gR,0,none⟩) n c1)/\(w4.alloc (.cells #[.int .i64 (stoneU (rowZ L k) (rowN L k) x:Int),.int .i64 wq,.int .i64 x] 77)).cell? ⟨X,1,none⟩=some (.slice (some ⟨gL,0,none⟩) n c2))/\(w4.alloc (.cells #[.int .i64 (stoneU (rowZ L k) (rowN L k) x:Int),.int .i64 wq,.int .i64 x] 77)).cell? ⟨wr.heap.size,0,none⟩=some (.slice (some ⟨gi,0,none⟩) (rowN L k) ci):=⟨⟨(World.cell?_alloc_lt w4 _ ⟨X,0,none⟩ (show X<w4.heap.size from by omega)).trans q4.1.1,(World.cell?_alloc_lt w4 _ ⟨X,1,none⟩ (show X<w4.heap.size from by omega)).trans q4.1.2⟩,(World.cell?_alloc_lt w4 _ ⟨wr.heap.size,0,none⟩ (show wr.heap.size<w4.heap.size from by omega)).trans q4.2⟩;refine hK.out _ _ (by exact q5) (fun hHeld => ?_);clear hK K;try simp only [Act.put,ly3]
   rotate_left
   go_simp
   refine hK.out _ _ (by exact q4) (fun hHeld => ?_);clear hK K;try simp only [Act.put,ly3]
   refine rd1 18 rfl fun K hK=>?_;go_simp
   have u5:(w4.alloc (.cells #[.int .i64 (stoneU (rowZ L k) (rowN L k) x:Int),.int .i64 wq,.int .i64 x] 77)).cell? ⟨gL,k,none⟩=some (.slice (some ⟨gu,0,none⟩) (rowN (shTo L M n wq x k) k) cu):=(World.cell?_alloc_lt w4 _ ⟨gL,k,none⟩ (show gL<w4.heap.size from by omega)).trans u4;have q5:((w4.alloc (.cells #[.int .i64 (stoneU (rowZ L k) (rowN L k) x:Int),.int .i64 wq,.int .i64 x] 77)).cell? ⟨X,0,none⟩=some (.slice (some ⟨gR,0,none⟩) n c1)/\(w4.alloc (.cells #[.int .i64 (stoneU (rowZ L k) (rowN L k) x:Int),.int .i64 wq,.int .i64 x] 77)).cell? ⟨X,1,none⟩=some (.slice (some ⟨gL,0,none⟩) n c2))/\(w4.alloc (.cells #[.int .i64 (stoneU (rowZ L k) (rowN L k) x:Int),.int .i64 wq,.int .i64 x] 77)).cell? ⟨wr.heap.size,0,none⟩=some (.slice (some ⟨gi,0,none⟩) (rowN L k) ci):=⟨⟨(World.cell?_alloc_lt w4 _ ⟨X,0,none⟩ (show X<w4.heap.size from by omega)).trans q4.1.1,(World.cell?_alloc_lt w4 _ ⟨X,1,none⟩ (show X<w4.heap.size from by omega)).trans q4.1.2⟩,(World.cell?_alloc_lt w4 _ ⟨wr.heap.size,0,none⟩ (show wr.heap.size<w4.heap.size from by omega)).trans q4.2⟩;refine hK.out _ _ (by exact q5) (fun hHeld => ?_);clear hK K;try simp only [Act.put,ly3]
   all_goals
    refine rd1 19 rfl fun K hK=>?_;obtain ⟨gu2,cu2,hcu2,hou2⟩:=HS4.out.loads.row k hlt;rw [HCU.out] at hcu2;simp only [Option.some.injEq,Value.slice.injEq,Addr.mk.injEq,and_true,true_and] at hcu2;obtain ⟨rfl,rfl⟩:=hcu2;refine step_appRX rfl (.tmp 37) (.tmp 48) 46 rfl (w.heap.size+2) 77 3 24 #[.int .i64 0,.int .i64 0,.int .i64 0] Tryzx.underlying46 infoLoad rfl (by decide) (by decide) (.slice (some ⟨gu,0,none⟩) (rowN (shTo L M n wq x k) k) cu) (rowN (shTo L M n wq x k) k) (rowZ (shTo L M n wq x k) k) rfl (by exact hou2.alloc _) w4.heap.size 1 1 [(stoneU (rowZ L k) (rowN L k) x:Int),wq,x] rfl rfl (by exact fun j hj=>(rowF_new3S w4 _ _ _ _).cell hj) (by omega) (by simp; omega) (by simp) ?_
    intro g' cap' w5 hown5 har5;have HN5:=q_ (HS.out.step (M':=shTo L M n wq x (k+1)) (wy:=(w4.alloc (.cells #[.int .i64 (stoneU (rowZ L k) (rowN L k) x:Int),.int .i64 wq,.int .i64 x] 77))) ((HBX.out.trans (HB4.out.mono (by rw [HWZ.out]; omega))).alloc (by omega) _) hlt HCU.out hown5 har5 ⟨by rw [HNK.out.1,HMK.out.1],by rw [HNK.out.2,HMK.out.2]⟩ (fun i hi hik=>by
     by_cases hik2:i<k
     ·have e1:=shTo_lt (L:=L) (M:=M) (wq:=wq) (x:=x) (k:=k+1) hi (by omega)
      have e2:=shTo_lt (L:=L) (M:=M) (wq:=wq) (x:=x) (k:=k) hi hik2;rw [e1.1,e1.2,e2.1,e2.2];exact ⟨rfl,rfl⟩
     ·have e1:=shTo_ge (L:=L) (M:=M) (wq:=wq) (x:=x) (k:=k+1) hi (by omega)
      have e2:=shTo_ge (L:=L) (M:=M) (wq:=wq) (x:=x) (k:=k) hi hik2;rw [e1.1,e1.2,e2.1,e2.2];exact ⟨rfl,rfl⟩))
    have hne:∀ (b:Nat),b ≠ gu->∀ g,((.slice (some ⟨gu,0,none⟩) (rowN (shTo L M n wq x k) k) cu):Value).ownBlock=some g->g ≠ b:=fun b hb g hg e=>by simp [Value.ownBlock] at hg; omega
    have q6:(w5.cell? ⟨X,0,none⟩=some (.slice (some ⟨gR,0,none⟩) n c1)/\w5.cell? ⟨X,1,none⟩=some (.slice (some ⟨gL,0,none⟩) n c2))/\w5.cell? ⟨wr.heap.size,0,none⟩=some (.slice (some ⟨gi,0,none⟩) (rowN L k) ci):=⟨⟨(har5.cellStay (p:=⟨X,0,none⟩) (by simp; omega) (hne X (fun e=>t1 e.symm))).trans q5.1.1,(har5.cellStay (p:=⟨X,1,none⟩) (by simp; omega) (hne X (fun e=>t1 e.symm))).trans q5.1.2⟩,(har5.cellStay (p:=⟨wr.heap.size,0,none⟩) (by simp; omega) (hne wr.heap.size (by omega))).trans q5.2⟩
    have u6:w5.cell? ⟨gL,k,none⟩=some (.slice (some ⟨gu,0,none⟩) (rowN (shTo L M n wq x k) k) cu):=(har5.cellStay (p:=⟨gL,k,none⟩) (by simp; omega) (hne gL (fun e=>t3 e.symm))).trans u5
    have f0:w5.frozen? ⟨gL,k,none⟩=false:=by have:=World.ownsRow.frozenAt HN5.out.loads.cells.1 k; rwa [World.frozen?_setCell] at this
    refine hK.out _ _ (by exact q6) (fun hHeld => ?_);clear hK K;try simp only [Act.put,ly3]
    refine tk 20 50 rfl rfl ?_;try simp only [Act.put,ly3]
    refine rd1 21 rfl fun K hK=>?_;go_simp
    refine hK.out _ _ (by exact ⟨⟨HN5.out.out.cell (i:=0) (by omega),HN5.out.out.cell (i:=1) (by omega)⟩,(World.cell?_setCell_far _ _ _ _ (by simp; omega)).trans q6.2⟩) (fun hHeld => ?_)
    clear hK K;try simp only [Act.put,ly3]
    refine wpAnyH_done (by kernel_rfl) ?_ _;clear hHeld;go_wp2;go_roundw
    case rel=>exact ⟨k+1,_,by go_num,by omega,HN5⟩
    case measure=>simp [intOf]; omega
  ·obtain rfl:n=k:=by omega
   clear hlt hk;have HNT:Hid (NestAt wr wr.heap.size 4 (some ⟨gR,0,none⟩) n L/\NestAt wr wr.heap.size 3 (some ⟨gL,0,none⟩) n (shTo L M n wq x n)):=q_ ⟨HS.out.ribs.nestAt HR.out.2,HS.out.loads.nestAt (by simp [shTo])⟩;have HRM:Hid (∀ i,i<n->rowN (shTo L M n wq x n) i<=1048576):=q_ (fun i hi=>by
    have e:=shTo_lt (L:=L) (M:=M) (wq:=wq) (x:=x) (k:=n) hi hi;obtain ⟨_,hq6,_⟩:=loadsB_out (HRIB.out i hi);rw [e.1]; omega)
   go_wp2_with fail
   refine (iVaultOk_any _ _ _ L _ _ _ (shTo L M n wq x n) _ HNT.out.1 (by omega) HR.out.1.1 HNT.out.2 (by omega) HRM.out).mono ?_;clear o0 o1;cases hV2:vaultB L n (shTo L M n wq x n) n
   ·have HF:=q_ (HF3.out hV2)
    rintro e w4 ⟨rfl,hb4⟩;have HS4:=q_ (HS.out.after hb4);have a0:w4.cell? ⟨w.heap.size,0,none⟩=some (.slice (some ⟨gA,0,none⟩) n cA):=HS4.out.arg.cell (i:=0) (by omega);have a1:w4.cell? ⟨w.heap.size,1,none⟩=some (.slice (some ⟨gB,0,none⟩) n cB):=HS4.out.arg.cell (i:=1) (by omega);clear hb4 HS HNT HRM hV2;go_wp2_with fail
    refine (iCopyVaultG_any gA n cA gB n cB L M _ (HA.out.after HS4.out.below) hn HR.out.1.1 HR.out.1.2 (HB.out.after HS4.out.below) hq HT.out.1.1 HT.out.1.2).mono ?_;rintro e w5 ⟨vR5,vL5,csR5,csL5,rfl,hgr5,hgl5,hb5⟩;have HS5:=q_ (HS4.out.after hb5);have HG5:=q_ (And.intro hgr5 hgl5);have hz4:=HS4.out.res.lt;have HZ4:=q_ hb5.size;obtain ⟨A5,c5,rfl,_⟩:=hgr5.cells.slice;obtain ⟨B5,d5,rfl,_⟩:=hgl5.cells.slice;clear hgr5 hgl5 hb5 a0 a1;have r0:w5.cell? ⟨w.heap.size+1,0,none⟩=some (.slice none 0 0):=HS5.out.res.cell (i:=0) (by omega);have r1:w5.cell? ⟨w.heap.size+1,1,none⟩=some (.slice none 0 0):=HS5.out.res.cell (i:=1) (by omega);have f0:=HS5.out.res.frozen 0;have f1:=HS5.out.res.frozen 1;have hs:=RowF.lt HS5.out.res;go_wp2;refine bodyPost_ret (v := .tuple #[.agg #[.slice A5 n c5,.slice B5 n d5],.bool false]) (by simp [results,Tryz.results19,go_sem, *]) rfl ?_;exact ⟨.slice A5 n c5,.slice B5 n d5,csR5,csL5,by rw [HF.out.1],((HG5.out.1.setLow (by simp; omega) _).setLow (by simp; omega) _).mono (by omega),by rw [HF.out.2]; exact ((HG5.out.2.setLow (by simp; omega) _).setLow (by simp; omega) _).mono (by omega),(HS5.out.below.setCell (by simp) _).setCell (by simp) _⟩
   ·have HF:=q_ (HFT.out hV2)
    rintro e w4 ⟨rfl,hb4⟩;have HS4:=q_ (HS.out.after hb4);clear hb4 HS HNT HRM hV2;have d0:w4.cell? ⟨X,0,none⟩=some (.slice (some ⟨gR,0,none⟩) n c1):=HS4.out.out.cell (i:=0) (by omega);have d1:w4.cell? ⟨X,1,none⟩=some (.slice (some ⟨gL,0,none⟩) n c2):=HS4.out.out.cell (i:=1) (by omega);have r0:w4.cell? ⟨w.heap.size+1,0,none⟩=some (.slice none 0 0):=HS4.out.res.cell (i:=0) (by omega);have r1:w4.cell? ⟨w.heap.size+1,1,none⟩=some (.slice none 0 0):=HS4.out.res.cell (i:=1) (by omega);have f0:=HS4.out.res.frozen 0;have f1:=HS4.out.res.frozen 1;have hs:=RowF.lt HS4.out.res;go_wp2;refine bodyPost_ret (v := .tuple #[.agg #[.slice (some ⟨gR,0,none⟩) n c1,.slice (some ⟨gL,0,none⟩) n c2],.bool true]) (by simp [results,Tryz.results19,go_sem, *]) rfl ?_;exact ⟨.slice (some ⟨gR,0,none⟩) n c1,.slice (some ⟨gL,0,none⟩) n c2,csR,csL,by rw [HF.out.1],((HS4.out.ribs.setLow (by simp) _).setLow (by simp) _).mono (by omega),by rw [HF.out.2]; exact ((HS4.out.loads.setLow (by simp) _).setLow (by simp) _).mono (by omega),(HS4.out.below.setCell (by simp) _).setCell (by simp) _⟩
end X
namespace X
open Go.RowKit
theorem infoRow:(Tryzx.prog.info? 133).map (fun i=>(i.zero,i.size,i.bytes))=some (some (.agg #[.int .i64 0,.int .i64 0,.int .i64 0,.int .i64 0]),4,32):=by kernel_rfl
def RowsPost (w:World) (m:Nat) (L:List Int) (e:Ending) (w':World):Prop :=
 ∃ v,e = .returned v/\OwnR w' w.heap.size 133 4 v m L/\Below w.heap.size w w'
def RowsPostN (w:World) (m:Nat) (L:List Int) (e:Ending) (w':World):Prop:=RowsPost w m L e w'/\(m=0->e = .returned (.slice none 0 0))
theorem sum_past {xs:List Int} {k:Nat} (hl:xs.length=k*2):sumW xs (k+1)=sumW xs k/\sumM xs (k+1)=sumM xs k:=by
 have h1:nth xs (k*2)=0:=by simp [nth,List.getD,List.getElem?_eq_none (show xs.length<=k*2 by omega)]
 have h2:nth xs (k*2+1)=0:=by simp [nth,List.getD,List.getElem?_eq_none (show xs.length<=k*2+1 by omega)]
 exact ⟨by simp [sumW,h1],by simp [sumM,h2]⟩
structure RFor (w wr:World) (va:Value) (zs xs:List Int) (k:Nat) (v5:Value):Prop where
 arch:RowF wr w.heap.size 45 1 (fun _=>va)
 left:RowF wr (w.heap.size+1) 139 2 (ints [sumW xs k,sumM xs k])
 own:OwnR wr (w.heap.size+2) 133 4 v5 (k*2) (rowTo zs (sumW xs) (sumM xs) k)
 below:Below w.heap.size w wr
theorem rfor_start (w:World) (va:Value) (zs xs:List Int):RFor w ((w.alloc (.cells #[va] 45)).alloc (.cells #[.int .i64 0,.int .i64 0] 139)) va zs xs 0 (.slice none 0 0):=by
 refine ⟨(RowF.of_row (World.rowIs_alloc w #[va] _ (fun _=>va) (fun i hi=>by simp at hi; subst hi; rfl))).alloc _,?_,OwnR.nil _ _ _ _,(bnw _ _).alloc (by simp) _⟩
 have h:=RowF.of_row (World.rowIs_alloc (w.alloc (.cells #[va] 45)) #[.int .i64 0,.int .i64 0] 139 (ints [0,0]) (fun i hi=>by simp at hi; match i,hi with | 0,_=>rfl | 1,_=>rfl))
 rw [World.size_alloc] at h;exact h
theorem RFor.drew {w wr:World} {va:Value} {zs xs:List Int} {k:Nat} {v5:Value} (h:RFor w wr va zs xs k v5):RFor w wr.drew va zs xs k v5:=⟨h.arch.drew,h.left.drew,h.own.drew,h.below.drew⟩
theorem rowC_new4 (w:World) (a b c d:Int) (T:TypeId):RowF (w.alloc (.cells #[.int .i64 a,.int .i64 b,.int .i64 c,.int .i64 d] T)) w.heap.size T 4 (ints [a,b,c,d]) :=
 RowF.of_row (World.rowIs_alloc w #[.int .i64 a,.int .i64 b,.int .i64 c,.int .i64 d] T _ (fun j hj=>by simp at hj; match j,hj with | 0,_=>rfl | 1,_=>rfl | 2,_=>rfl | 3,_=>rfl))
theorem rowC_new8 (w:World) (a b c d e f g h:Int) (T:TypeId):RowF (w.alloc (.cells #[.int .i64 a,.int .i64 b,.int .i64 c,.int .i64 d,.int .i64 e,.int .i64 f,.int .i64 g,.int .i64 h] T)) w.heap.size T 8 (ints [a,b,c,d,e,f,g,h]) :=
 RowF.of_row (World.rowIs_alloc w #[.int .i64 a,.int .i64 b,.int .i64 c,.int .i64 d,.int .i64 e,.int .i64 f,.int .i64 g,.int .i64 h] T _ (fun j hj=>by simp at hj; match j,hj with | 0,_=>rfl | 1,_=>rfl | 2,_=>rfl | 3,_=>rfl | 4,_=>rfl | 5,_=>rfl | 6,_=>rfl | 7,_=>rfl))
theorem jWraps {ix iy ox oy w m:Int} (h:JBd ix iy ox oy w m):IntKind.i64.wrap (-ix) = -ix/\IntKind.i64.wrap (-oy) = -oy/\IntKind.i64.wrap (ix*w)=ix*w/\IntKind.i64.wrap (m - ix*w)=m - ix*w/\IntKind.i64.wrap (ox*w)=ox*w/\IntKind.i64.wrap (ox*w - m)=ox*w - m:=by
 obtain ⟨h1,h2,h3,h4,h5,h6⟩:=h;exact ⟨iW (by omega),iW (by omega),iW (by omega),iW (by omega),iW (by omega),iW (by omega)⟩
theorem rowsFor_any (A:Option Addr) (n c:Nat) (zs:List Int) (B:Option Addr) (d:Nat) (xs:List Int) (w:World) (h:RecsAt w w.heap.size 4 A n zs) (hs:RecsAt w w.heap.size 2 B (n - 1) xs) (hA:archB zs n=true) (hb:WMok (sumW xs) (sumM xs) n) :
  Calls Tryzx.prog 111 #[.agg #[.slice A n c],.slice B (n - 1) d] w (RowsPost w (n*2+1) (rowsL zs (sumW xs) (sumM xs) n)):=by
 have hn8:=(archB_out hA).1;obtain ⟨m,rfl⟩:∃ m,n=m+1:=⟨n - 1,by omega⟩;rw [Nat.add_sub_cancel] at hs ⊢;obtain ⟨b,off,rfl,hbB,hcell⟩:=h.2 (by omega);obtain ⟨bs,offs,rfl,hbS,hcs⟩:=hs.2 (by omega);have HC:=q_ (fun j (hj:j<m+1)=>jtCells hcell hj);have HCS:=q_ hcs;have HPAST:=q_ (sum_past hs.1);have HB:=q_ hb;have HJB:=q_ (fun k (hk:k<m+1)=>jBd_of hA hb hk);have HOK:=q_ (allB_t (rowsL_ok hA hb));have ST:=q_ (rfor_start w (.slice (some ⟨b,off,none⟩) (m+1) c) zs xs);have hz0:((w.alloc (.cells #[.slice (some ⟨b,off,none⟩) (m+1) c] 45)).alloc (.cells #[.int .i64 0,.int .i64 0] 139)).heap.size=w.heap.size+1+1:=by simp
 clear hcell hcs h hs hA hb;go_enter Tryzx.func111,Tryz.ntmps111;go_wp2;go_loopw [5,12] (fun v5 v12 wr=>∃ (k:Nat),k<=m+1/\v12 = .int .i64 k/\Hid (RFor w wr (.slice (some ⟨b,off,none⟩) (m+1) c) zs xs k v5)) (fun _ v12 _=>m+1 - (intOf v12).toNat)
 case atStart=>exact ⟨0,Nat.zero_le _,rfl,ST⟩
 case round =>
  clear ST;obtain ⟨k,hk,rfl,HR⟩:=hrel;have hz:=HR.out.below.size;have hll:=HR.out.left.lt;by_cases hlt:k<m+1
  ·have ki:(k:Int)<((m+1:Nat):Int):=by omega
   have k0:(0:Int)<=(k:Int):=by omega
   have a0:wr.cell? ⟨w.heap.size,0,none⟩=some (.slice (some ⟨b,off,none⟩) (m+1) c):=HR.out.arch.cell (by omega);have hq:=HC.out k hlt;have x0:wr.cell? ⟨b,off+k*4,none⟩=some (.int .i64 (nth zs (k*4))):=(HR.out.below.cell (by exact hbB)).trans hq.1;have x1:wr.cell? ⟨b,off+k*4+1,none⟩=some (.int .i64 (nth zs (k*4+1))):=(HR.out.below.cell (by exact hbB)).trans hq.2.1;have x2:wr.cell? ⟨b,off+k*4+2,none⟩=some (.int .i64 (nth zs (k*4+2))):=(HR.out.below.cell (by exact hbB)).trans hq.2.2.1;have x3:wr.cell? ⟨b,off+k*4+3,none⟩=some (.int .i64 (nth zs (k*4+3))):=(HR.out.below.cell (by exact hbB)).trans hq.2.2.2;have HX:Hid (rowTo zs (sumW xs) (sumM xs) k ++ [nth zs (k*4+1),-nth zs (k*4),1,sumM xs k - nth zs (k*4)*sumW xs k,-nth zs (k*4+3),nth zs (k*4+2),-1,nth zs (k*4+2)*sumW xs k - sumM xs k]=rowTo zs (sumW xs) (sumM xs) (k+1)):=rfl;obtain ⟨e1,e2,e3,e4,e5,e6⟩:=jWraps (HJB.out k hlt);have HSW:Hid (∀ a b,sumW xs k=a->sumM xs k=b->sumW xs (k+1)=a+nth xs (k*2)/\sumM xs (k+1)=b+nth xs (k*2+1)):=fun a b h1 h2=>by subst h1; subst h2; exact ⟨rfl,rfl⟩
   have HL:=q_ HR.out.left;have HO:=q_ HR.out.own;have HAr:=q_ HR.out.arch;have HBl:=q_ HR.out.below;clear hq HR;generalize hWk:sumW xs k=lw at *
   generalize hMk:sumM xs k=lm at *
   have HWM:=q_ (HSW.out _ _ rfl rfl);have HWk:=q_ hWk;have HMk:=q_ hMk;clear HSW hWk hMk;generalize nth zs (k*4)=ix at *
   generalize nth zs (k*4+1)=iy at *
   generalize nth zs (k*4+2)=ox at *
   generalize nth zs (k*4+3)=oy at *
   obtain ⟨⟨z0,z1,z2,z3⟩,_⟩:=Box4.new wr ix iy ox oy 110;have hla:=HL.out.alloc (.cells #[.int .i64 ix,.int .i64 iy,.int .i64 ox,.int .i64 oy] 110);have l0:(wr.alloc (.cells #[.int .i64 ix,.int .i64 iy,.int .i64 ox,.int .i64 oy] 110)).cell? ⟨w.heap.size+1,0,none⟩=some (.int .i64 lw):=hla.cell (by omega);have l1:(wr.alloc (.cells #[.int .i64 ix,.int .i64 iy,.int .i64 ox,.int .i64 oy] 110)).cell? ⟨w.heap.size+1,1,none⟩=some (.int .i64 lm):=hla.cell (by omega);clear hla;have HBA:=q_ (((Below.refl (w.heap.size+2) wr).alloc (by omega) (.cells #[.int .i64 ix,.int .i64 iy,.int .i64 ox,.int .i64 oy] 110)).alloc (by simp; omega) (.cells #[.int .i64 iy,.int .i64 (-ix),.int .i64 1,.int .i64 (lm - ix*lw),.int .i64 (-oy),.int .i64 ox,.int .i64 (-1),.int .i64 (ox*lw - lm)] 133))
   have HOA:=q_ ((HO.out.alloc (.cells #[.int .i64 ix,.int .i64 iy,.int .i64 ox,.int .i64 oy] 110)).alloc (.cells #[.int .i64 iy,.int .i64 (-ix),.int .i64 1,.int .i64 (lm - ix*lw),.int .i64 (-oy),.int .i64 ox,.int .i64 (-1),.int .i64 (ox*lw - lm)] 133));have HCN:Hid (∀ i,i<2*4->((wr.alloc (.cells #[.int .i64 ix,.int .i64 iy,.int .i64 ox,.int .i64 oy] 110)).alloc (.cells #[.int .i64 iy,.int .i64 (-ix),.int .i64 1,.int .i64 (lm - ix*lw),.int .i64 (-oy),.int .i64 ox,.int .i64 (-1),.int .i64 (ox*lw - lm)] 133)).cell? ⟨wr.heap.size+1,i,none⟩=some (.int .i64 (nth [iy,-ix,1,lm - ix*lw,-oy,ox,-1,ox*lw - lm] i))):=by
    intro i hi;have h:=rowC_new8 (wr.alloc (.cells #[.int .i64 ix,.int .i64 iy,.int .i64 ox,.int .i64 oy] 110)) iy (-ix) 1 (lm - ix*lw) (-oy) ox (-1) (ox*lw - lm) 133;rw [World.size_alloc] at h;exact h.cell hi
   have hW0:w.heap.size+2<=((wr.alloc (.cells #[.int .i64 ix,.int .i64 iy,.int .i64 ox,.int .i64 oy] 110)).alloc (.cells #[.int .i64 iy,.int .i64 (-ix),.int .i64 1,.int .i64 (lm - ix*lw),.int .i64 (-oy),.int .i64 ox,.int .i64 (-1),.int .i64 (ox*lw - lm)] 133)).heap.size:=by simp; omega
   by_cases hkm:k<m
   ·have hkm':(k:Int)<(m:Int):=by omega
    go_wp2_with (at_builtin; refine wpList_appR _ rfl (.tmp 17) (.tmp 52) 103 rfl (w.heap.size+2) 133 4 32 #[.int .i64 0,.int .i64 0,.int .i64 0,.int .i64 0] Tryzx.underlying103 infoRow rfl (by decide) (by decide) _ (k*2) _ rfl (by exact HOA.out) (wr.heap.size+1) 2 2 [iy,-ix,1,lm - ix*lw,-oy,ox,-1,ox*lw - lm] rfl rfl (by exact HCN.out) (by omega) (w.heap.size+2) wr (by exact HBA.out) (Nat.le_refl _) hW0 _ HX.out ?_ (by omega); intro g' cap' w3 hown3 hb3);have HAr3:=q_ (HAr.out.below hb3 (by omega));have hl3:=HL.out.below hb3 (by omega);have HL3:=q_ hl3;have HBl3:=q_ (HBl.out.trans (hb3.mono (by omega)));have HO3:=q_ (show OwnR w3 (w.heap.size+2) 133 4 (.slice (some ⟨g',0,none⟩) (k*2+2) cap') ((k+1)*2) (rowTo zs (sumW xs) (sumM xs) (k+1)) by rw [show (k+1)*2=k*2+2 by omega]; exact hown3);have hz3:wr.heap.size<=w3.heap.size:=hb3.size;clear x0 x1 x2 x3 z0 z1 z2 z3 l0 l1 a0 hown3 e1 e2 e3 e4 e5 e6;have hc1:=HCS.out (k*2) (by omega);have hc2:=HCS.out (k*2+1) (by omega);have s0:w3.cell? ⟨bs,offs+k*2,none⟩=some (.int .i64 (nth xs (k*2))):=(HBl3.out.cell (by exact hbS)).trans hc1;have s1:w3.cell? ⟨bs,offs+k*2+1,none⟩=some (.int .i64 (nth xs (k*2+1))):=(HBl3.out.cell (by exact hbS)).trans hc2;have l0:w3.cell? ⟨w.heap.size+1,0,none⟩=some (.int .i64 lw):=hl3.cell (by omega);have l1:w3.cell? ⟨w.heap.size+1,1,none⟩=some (.int .i64 lm):=hl3.cell (by omega);have f0:=hl3.frozen 0;have f1:=hl3.frozen 1;have hbd:=HB.out (k+1) (by omega);rw [HWM.out.1,HWM.out.2] at hbd;have ne1:¬ bs=w.heap.size+1:=by omega
    have es1:IntKind.i64.wrap (lw+nth xs (k*2))=lw+nth xs (k*2):=iW (by omega);have es2:IntKind.i64.wrap (lm+nth xs (k*2+1))=lm+nth xs (k*2+1):=iW (by omega);generalize nth xs (k*2)=sw at *
    generalize nth xs (k*2+1)=sm at *
    clear hl3 hc1 hc2 hb3;have hlA:=HL3.out.set 0 (.int .i64 (lw+sw));have l1':(w3.setCell ⟨w.heap.size+1,0,none⟩ (.int .i64 (lw+sw))).cell? ⟨w.heap.size+1,1,none⟩=some (.int .i64 lm):=by
     have h:=hlA.cell (i:=1) (by omega);exact h
    have s1':(w3.setCell ⟨w.heap.size+1,0,none⟩ (.int .i64 (lw+sw))).cell? ⟨bs,offs+k*2+1,none⟩=some (.int .i64 sm):=(World.cell?_setCell_far _ _ _ _ (by simp; omega)).trans s1
    have f1':(w3.setCell ⟨w.heap.size+1,0,none⟩ (.int .i64 (lw+sw))).frozen? ⟨w.heap.size+1,1,none⟩=false:=hlA.frozen 1;have HF:Hid (RFor w ((w3.setCell ⟨w.heap.size+1,0,none⟩ (.int .i64 (lw+sw))).drew.setCell ⟨w.heap.size+1,1,none⟩ (.int .i64 (lm+sm))) (.slice (some ⟨b,off,none⟩) (m+1) c) zs xs (k+1) (.slice (some ⟨g',0,none⟩) (k*2+2) cap')):=by
     have hcg:Below (w.heap.size+2) w3 w3:=Below.refl _ _;refine ⟨(HAr3.out.set_other (by simp) _).set_other (by simp) _,?_,?_,(HBl3.out.setCell (by simp) _).drew.setCell (by simp) _⟩
     ·rw [HWM.out.1,HWM.out.2]
      exact (hlA.set 1 (.int .i64 (lm+sm))).congr (fun i hi=>by match i,hi with | 0,_=>rfl | 1,_=>rfl)
     ·exact HO3.out.set2 _ _ _ _ (by simp) (by simp)
    clear hlA;go_wp2;go_region_law (fail)
    all_goals
     go_wp2;generalize hWZ:(w3.setCell ⟨w.heap.size+1,0,none⟩ (.int .i64 (lw+sw)))=wz at *
     go_region_law (fail)
     all_goals
      go_wp2;go_roundw
      case rel=>exact ⟨k+1,by omega,by go_num,q_ HF.out.drew⟩
      case measure=>simp [intOf]; omega
   ·obtain rfl:k=m:=by omega
    go_wp2_with (at_builtin; refine wpList_appR _ rfl (.tmp 17) (.tmp 52) 103 rfl (w.heap.size+2) 133 4 32 #[.int .i64 0,.int .i64 0,.int .i64 0,.int .i64 0] Tryzx.underlying103 infoRow rfl (by decide) (by decide) _ (k*2) _ rfl (by exact HOA.out) (wr.heap.size+1) 2 2 [iy,-ix,1,lm - ix*lw,-oy,ox,-1,ox*lw - lm] rfl rfl (by exact HCN.out) (by omega) (w.heap.size+2) wr (by exact HBA.out) (Nat.le_refl _) hW0 _ HX.out ?_ (by omega); intro g' cap' w3 hown3 hb3);have HAr3:=q_ (HAr.out.below hb3 (by omega));have hl3:=HL.out.below hb3 (by omega);have HL3:=q_ hl3;have HBl3:=q_ (HBl.out.trans (hb3.mono (by omega)));have HO3:=q_ (show OwnR w3 (w.heap.size+2) 133 4 (.slice (some ⟨g',0,none⟩) (k*2+2) cap') ((k+1)*2) (rowTo zs (sumW xs) (sumM xs) (k+1)) by rw [show (k+1)*2=k*2+2 by omega]; exact hown3);have hz3:wr.heap.size<=w3.heap.size:=hb3.size;clear x0 x1 x2 x3 z0 z1 z2 z3 l0 l1 a0 hown3 e1 e2 e3 e4 e5 e6;have HF:Hid (RFor w w3 (.slice (some ⟨b,off,none⟩) (k+1) c) zs xs (k+1) (.slice (some ⟨g',0,none⟩) (k*2+2) cap')) :=
     ⟨HAr3.out,by rw [HPAST.out.1,HPAST.out.2,HWk.out,HMk.out]; exact HL3.out,HO3.out,HBl3.out⟩
    clear hl3 hb3;go_wp2;go_roundw
    case rel=>exact ⟨k+1,by omega,by go_num,HF⟩
    case measure=>first | (simp [intOf]; done) | (simp [intOf]; omega)
  ·obtain rfl:k=m+1:=by omega
   have HU:Hid (rowTo zs (sumW xs) (sumM xs) (m+1) ++ [-1,0,0,0]=rowsL zs (sumW xs) (sumM xs) (m+1)):=rfl;have HO:=q_ (HR.out.own.alloc (.cells #[.int .i64 (-1),.int .i64 0,.int .i64 0,.int .i64 0] 133));have HBA:=q_ (HR.out.below.alloc hz (.cells #[.int .i64 (-1),.int .i64 0,.int .i64 0,.int .i64 0] 133));have HCN:Hid (∀ i,i<1*4->(wr.alloc (.cells #[.int .i64 (-1),.int .i64 0,.int .i64 0,.int .i64 0] 133)).cell? ⟨wr.heap.size,i,none⟩=some (.int .i64 (nth [-1,0,0,0] i))):=fun i hi=>(rowC_new4 wr (-1) 0 0 0 133).cell hi
   go_wp2_with (at_builtin; refine wpList_appR _ rfl (.tmp 77) (.tmp 79) 103 rfl (w.heap.size+2) 133 4 32 #[.int .i64 0,.int .i64 0,.int .i64 0,.int .i64 0] Tryzx.underlying103 infoRow rfl (by decide) (by decide) _ ((m+1)*2) _ rfl (by exact HO.out) wr.heap.size 1 1 [-1,0,0,0] rfl rfl (by exact HCN.out) (by omega) w.heap.size w (by exact HBA.out) (by omega) (by simp; omega) _ HU.out ?_ (by omega); intro g' cap' w3 hown3 hb3);have HO3:=q_ hown3;have HB3:=q_ hb3;clear hown3 hb3;go_wp2_with fail
   refine (rowsOk_any _ _ _ _ _ (by exact HO3.out.recs) (by omega)).mono ?_;rw [HOK.out];rintro e w4 ⟨rfl,hb4⟩;have HO4:=q_ (HO3.out.below hb4);have HB4:=q_ (HB3.out.trans (hb4.mono HB3.out.size));clear hb4;go_wp2;go_ret;exact ⟨_,rfl,HO4.out.weaken (by omega),HB4.out⟩
end X
namespace X
open Go.RowKit
theorem l04Cross_any (ax ay bx b_y:Int) (w:World) (ha:ptB ax ay=true) (hb:ptB bx b_y=true) :
  Calls Tryzx.prog 116 #[.agg #[.int .i64 ax,.int .i64 ay],.agg #[.int .i64 bx,.int .i64 b_y]] w fun e w'=>e = .returned (.int .i64 (crossI ax ay bx b_y))/\Below w.heap.size w w':=by
 have hcr:=crossI_bd ha hb;unfold crossI at hcr;rw [ptB_iff] at ha hb;have hmA:=mul_bd (m:=60) (n:=60) (a:=ax) (b:=b_y) (by omega) (by omega);have hmB:=mul_bd (m:=60) (n:=60) (a:=ay) (b:=bx) (by omega) (by omega);go_enter Tryzx.func116,Tryz.ntmps116;go_wp2;go_ret;exact ⟨rfl,(bnw _ _).alloc (by simp) _⟩
theorem sAreaTwice_any (A:Option Addr) (n c:Nat) (zs:List Int) (w:World) (h:RecsAt w w.heap.size 2 A n zs) (hn:n<=1048576) :
  Calls Tryzx.prog 115 #[.agg #[.slice A n c]] w fun e w'=>e = .returned (.int .i64 (overI facOne zs n))/\Below w.heap.size w w':=by
 have HA:=q_ ((Below.refl w.heap.size w).alloc (Nat.le_refl _) (.cells #[.slice A n c] 127));have H:=q_ h;cases hs:stoneB zs n
 ·have HF:=q_ (overI_f (F:=facOne) hs)
  go_enter Tryzx.func115,Tryz.ntmps115;go_wp2;go_loopw [3,4] (fun s i wr=>s = .int .i64 0/\i = .int .i64 0/\wr.cell? ⟨w.heap.size,0,none⟩=some (.slice A n c)/\Below w.heap.size w wr) (fun _ i _=>n - (intOf i).toNat)
  case atStart=>exact ⟨rfl,rfl,cell_new0 _ _ _,HA.out⟩
  case round =>
   clear HA;obtain ⟨rfl,rfl,hbox,hb⟩:=hrel;have HB:=q_ hb;by_cases h0:n=0
   ·subst h0
    clear hb;go_wp2;go_ret;exact ⟨ret_int HF.out.symm,HB.out⟩
   ·have hpos:(0:Int)<(n:Int):=by omega
    have hpos':0<n:=by omega
    have r1:=(H.out.below hb).mono hb.size;clear hb h0;go_wp2_with fail
    refine (sStoneOk_any _ _ _ zs _ r1).mono ?_;rw [hs];rintro e w1 ⟨rfl,hb1⟩;have HB1:=q_ (HB.out.trans (hb1.mono HB.out.size));clear hb1;go_wp2;go_ret;exact ⟨ret_int HF.out.symm,HB1.out⟩
 ·have ho:=stoneB_out hs
  have HT:=q_ (overI_t (F:=facOne) hs);have hn3:=ho.1.1;have hn6:=ho.1.2;have HPT:=q_ ho.2.1;have HBD:=q_ (overTo_bd facOne_ok ho.2.1);obtain ⟨b,off,rfl,hbB,hc⟩:=h.2 (by omega);have HC:=q_ hc;clear hc h ho;go_enter Tryzx.func115,Tryz.ntmps115;go_wp2;go_loopw [3,4] (fun s i wr=>∃ j:Nat,j<=n/\i = .int .i64 j/\s = .int .i64 (overTo facOne zs n j)/\wr.cell? ⟨w.heap.size,0,none⟩=some (.slice (some ⟨b,off,none⟩) n c)/\Below w.heap.size w wr) (fun _ i _=>n - (intOf i).toNat)
  case atStart=>exact ⟨0,Nat.zero_le _,rfl,rfl,cell_new0 _ _ _,HA.out⟩
  case round =>
   clear HA;obtain ⟨j,hj,rfl,rfl,hbox,hb⟩:=hrel;have HB:=q_ hb;have hgl:=World.block_lt_of_cell? _ _ hbox;simp only at hgl;by_cases hlt:j<n
   ·have r0:=(H.out.below hb).mono hb.size
    have hji:(j:Int)<(n:Int):=by omega
    clear hb;go_wp2_with fail
    refine (sStoneOk_any _ _ _ zs _ r0).mono ?_;rw [hs];rintro e w1 ⟨rfl,hb1⟩;have hb:=HB.out.trans (hb1.mono HB.out.size);have hbox1:=(hb1.cell (p:=⟨w.heap.size,0,none⟩) hgl).trans hbox;have hgl1:w.heap.size<w1.heap.size:=by have:=hb1.size; omega
    have HB1:=q_ hb;have hm1:(j+1) % n<n:=Nat.mod_lt _ (by omega);obtain ⟨x0,x1⟩:=ptCells (fun i hi=>(hb.cell (by exact hbB)).trans (HC.out i hi)) hlt;obtain ⟨y0,y1⟩:=ptCells (fun i hi=>(hb.cell (by exact hbB)).trans (HC.out i hi)) hm1;have hz1:=hb.size;clear hb hb1 hbox hgl r0;have r1:Int.tmod ((j:Int)+1) (n:Int)=(((j+1) % n:Nat):Int):=rem_nat (j+1) n;have hpk:=HPT.out j hlt;have hp1:=HPT.out _ hm1;have HST:=q_ (show overTo facOne zs n (j+1)=overTo facOne zs n j+part facOne zs j ((j+1) % n) from rfl);have hb0:=HBD.out j (by omega);unfold ptA at hpk hp1;have hcr:=crossI_bd hpk hp1;rw [part_one] at HST;generalize (j+1) % n=j1 at *
    generalize overTo facOne zs n j=S at *
    have i1:IntKind.i64.wrap ((j:Int)+1)=(j:Int)+1:=iW (by omega);have i3:IntKind.i64.wrap (j1:Int)=(j1:Int):=iW (by omega);have i6:(j1:Int)<(n:Int):=by omega
    have i8:¬ n=0:=by omega
    have i9:¬ (n:Int)=0:=by omega
    have i10:((n:Int) == 0)=false:=by simp; omega
    have i11:(0:Int)<=(j:Int):=by omega
    have i12:(0:Int)<=(j1:Int):=by omega
    have e5:IntKind.i64.wrap (S+crossI (nth zs (j*2)) (nth zs (j*2+1)) (nth zs (j1*2)) (nth zs (j1*2+1)))=S+crossI (nth zs (j*2)) (nth zs (j*2+1)) (nth zs (j1*2)) (nth zs (j1*2+1)):=iW (by omega);go_wp2;go_region_held3 (fun w'=>w'.cell? ⟨w.heap.size,0,none⟩=some (.slice (some ⟨b,off,none⟩) n c)/\(w'.cell? ⟨b,off+j*2,none⟩=some (.int .i64 (nth zs (j*2)))/\w'.cell? ⟨b,off+j*2+1,none⟩=some (.int .i64 (nth zs (j*2+1))))/\(w'.cell? ⟨b,off+j1*2,none⟩=some (.int .i64 (nth zs (j1*2)))/\w'.cell? ⟨b,off+j1*2+1,none⟩=some (.int .i64 (nth zs (j1*2+1))))) (first | (simp [*]; done) | (refine ⟨?_,⟨?_,?_⟩,⟨?_,?_⟩⟩ <;> (rw [hcc _ _ (by simp <;> omega)]; simp [*]))) ((go_at_call 116; refine (l04Cross_any _ _ _ _ _ hpk hp1).mono ?_; rintro e w2 ⟨rfl,hb2⟩; obtain ⟨hcc,hff⟩:=bcell hb2));have HB2:=q_ (HB1.out.drew.trans (hb2.mono (by simp; omega)))
    have hbox2:=(hb2.cell (p:=⟨w.heap.size,0,none⟩) (by simp; omega)).trans hbox1
    clear hcc hff hb2;go_wp2;go_roundw
    case rel=>exact ⟨j+1,by omega,by go_num,by rw [HST.out],hbox2,HB2.out⟩
    case measure=>first | (simp [intOf]; done) | (simp [intOf]; omega)
   ·obtain rfl:j=n:=by omega
    clear hb;go_wp2;go_ret;exact ⟨ret_int HT.out.symm,HB.out⟩
theorem sWeightOf_any (A:Option Addr) (n c:Nat) (zs:List Int) (w:World) (h:RecsAt w w.heap.size 2 A n zs) (hn:n<=1048576) :
  Calls Tryzx.prog 92 #[.agg #[.slice A n c]] w fun e w'=>e = .returned (.int .i64 (weightI zs n))/\Below w.heap.size w w':=by
 have HA:=q_ ((Below.refl w.heap.size w).alloc (Nat.le_refl _) (.cells #[.slice A n c] 127));have H0:RecsAt (w.alloc (.cells #[.slice A n c] 127)) (w.alloc (.cells #[.slice A n c] 127)).heap.size 2 A n zs:=(h.alloc (Nat.le_refl _) _).mono (by simp);have hbd:=overI_bd facOne_ok zs n;go_enter Tryzx.func92,Tryz.ntmps92;go_wp2_with fail
 refine (sAreaTwice_any _ _ _ zs _ H0 hn).mono ?_;rintro e w1 ⟨rfl,hb1⟩;have HB1:=q_ (HA.out.trans (hb1.mono (by simp)));clear hb1;go_wp2;go_ret;exact ⟨ret_int (by unfold weightI; rfl),HB1.out⟩
end X
end Go.Proofs.YtjcgklifabcfkaaGreat
