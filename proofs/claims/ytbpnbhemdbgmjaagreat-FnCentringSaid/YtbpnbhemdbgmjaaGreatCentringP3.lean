/-
  Texts that the law stands on, part 3.
-/
import Derived.Test.YtbpnbhemdbgmjaaGreatCentringP1
import Derived.Test.YtbpnbhemdbgmjaaGreatCentringP2
import Derived.Test.YtbpnbhemdbgmjaaGreatC1
import Derived.Test.YtbpnbhemdbgmjaaGreatC11
import Derived.Test.YtbpnbhemdbgmjaaGreatC19
import Derived.Test.YtbpnbhemdbgmjaaGreatC21
import Derived.Test.YtbpnbhemdbgmjaaGreatC22
import Derived.Test.YtbpnbhemdbgmjaaGreatC23
import Derived.Test.YtbpnbhemdbgmjaaGreatC24
import Derived.Maps.OwnOps
import Derived.Maps.OwnSet
import Derived.Maps.Views
import Derived.Maps.RangeWalk
import Derived.Laws.BitsAllLaws
import Derived.Laws.BitsLemmas
set_option maxRecDepth 100000
set_option linter.unusedVariables false
set_option linter.unusedSimpArgs false
namespace Go.Proofs.YtbpnbhemdbgmjaaGreat
namespace X
open Go.RowKit
def isC (cs:List Int):Nat→Nat→Bool
 | 0,_=>false
 | i+1,j=>isC cs i j || decide (nth cs i=(j:Int))
theorem isC_iff (cs:List Int) (j:Nat):∀ i,isC cs i j=true ↔ ∃ t,t<i∧nth cs t=(j:Int)
 | 0=>by simp [isC]
 | i+1=>by
  simp only [isC,Bool.or_eq_true,decide_eq_true_eq,isC_iff cs j i];constructor
  ·rintro (⟨t,h1,h2⟩ | h)
   ·exact ⟨t,by omega,h2⟩
   ·exact ⟨i,by omega,h⟩
  ·rintro ⟨t,h1,h2⟩
   by_cases e:t=i
   ·subst e; exact .inr h2
   ·exact .inl ⟨t,by omega,h2⟩
def stgW (zs cs:List Int) (q j:Nat):Int:=if isC cs q j=true then 0 else swt zs j
def stgM (zs cs:List Int) (q j:Nat):Int:=if isC cs q j=true then 0 else smt zs j
theorem stg_bd (zs cs:List Int) (q j:Nat):(-129600≤stgW zs cs q j∧stgW zs cs q j≤129600)∧(-5184000≤stgM zs cs q j∧stgM zs cs q j≤5184000):=by
 have h1:=swt_bd zs j;have h2:=smt_bd zs j;unfold stgW stgM;split <;> omega
def stgL (zs cs:List Int) (q:Nat):Nat→List Int
 | 0 => []
 | k+1=>stgL zs cs q k ++ [stgW zs cs q k,stgM zs cs q k]
theorem stgL_len (zs cs:List Int) (q:Nat):∀ k,(stgL zs cs q k).length=k*2
 | 0=>rfl
 | k+1=>by simp [stgL,stgL_len zs cs q k]; omega
theorem stgL_nth (zs cs:List Int) (q:Nat):∀ {m k:Nat},k<m→nth (stgL zs cs q m) (k*2)=stgW zs cs q k∧nth (stgL zs cs q m) (k*2+1)=stgM zs cs q k
 | 0,k,h=>absurd h (by omega)
 | m+1,k,h=>by
  have hl:=stgL_len zs cs q m;simp only [stgL];by_cases e:k=m
  ·subst e
   exact ⟨nthA_r 0 (by omega),nthA_r 1 (by omega)⟩
  ·rw [nthA_l (by omega),nthA_l (by omega)]
   exact stgL_nth zs cs q (by omega)
theorem sumStg_bd (zs cs:List Int) (q m:Nat):∀ k:Nat,(-(129600*(k:Int))≤sumW (stgL zs cs q m) k∧sumW (stgL zs cs q m) k≤129600*(k:Int))∧(-(5184000*(k:Int))≤sumM (stgL zs cs q m) k∧sumM (stgL zs cs q m) k≤5184000*(k:Int))
 | 0=>by simp [sumW,sumM]
 | k+1=>by
  have ih:=sumStg_bd zs cs q m k;have hb:(-129600≤nth (stgL zs cs q m) (k*2)∧nth (stgL zs cs q m) (k*2)≤129600)∧(-5184000≤nth (stgL zs cs q m) (k*2+1)∧nth (stgL zs cs q m) (k*2+1)≤5184000):=by
   by_cases h:k<m
   ·rw [(stgL_nth zs cs q h).1,(stgL_nth zs cs q h).2]; exact stg_bd zs cs q k
   ·have hl:=stgL_len zs cs q m
    have h1:nth (stgL zs cs q m) (k*2)=0:=by simp [nth,List.getD,List.getElem?_eq_none (show (stgL zs cs q m).length≤k*2 by omega)]
    have h2:nth (stgL zs cs q m) (k*2+1)=0:=by simp [nth,List.getD,List.getElem?_eq_none (show (stgL zs cs q m).length≤k*2+1 by omega)]
    rw [h1,h2]; omega
  simp only [sumW,sumM];omega
theorem wmok_stg {zs:List Int} {n:Nat} (cs:List Int) (q m:Nat) (hA:archB zs n=true):WMok (sumW (stgL zs cs q m)) (sumM (stgL zs cs q m)) n:=by
 have hn:=(archB_out hA).1;intro k hk;have h:=sumStg_bd zs cs q m k;omega
def stgN (zs:List Int) (n:Nat) (cs:List Int) (q:Nat):Nat:=if carriedB zs n cs q=true then n*2+1 else 0
def stgR (zs:List Int) (n:Nat) (cs:List Int) (q:Nat):List Int:=if carriedB zs n cs q=true then rowsL zs (sumW (stgL zs cs q (n - 1))) (sumM (stgL zs cs q (n - 1))) n else []
section
variable {zs : List Int} {n : Nat} {cs : List Int} {q : Nat}
theorem stg_t (h:carriedB zs n cs q=true):stgN zs n cs q=n*2+1∧stgR zs n cs q=rowsL zs (sumW (stgL zs cs q (n - 1))) (sumM (stgL zs cs q (n - 1))) n:=by simp [stgN,stgR,h]
theorem stg_f (h:carriedB zs n cs q=false):stgN zs n cs q=0∧stgR zs n cs q = []:=by simp [stgN,stgR,h]
theorem carriedB_out (h:carriedB zs n cs q=true):archB zs n=true∧ascTo cs 0 ((n:Int) - 2) q:=by
 simp only [carriedB,Bool.and_eq_true,ascB,List.all_eq_true] at h;exact ⟨h.1,fun i hi=>h.2 i (by simpa using hi)⟩
theorem asc_in {lo hi:Int} (h:ascTo cs lo hi q) {i:Nat} (hi':i<q):lo≤nth cs i∧nth cs i≤hi:=by
 have:=h i hi';simp only [ascAt,Bool.and_eq_true] at this;exact inB_iff.1 this.1
end
section
open Go.RowKit Go.Maps
def keyL (m:Int):Lit := .int .i64 m
theorem keyL_ne {a b:Int} (h:a ≠ b):keyL a ≠ keyL b:=by
 intro e;exact h (by simpa [keyL] using e)
def prD (a b:Int):DataW Unit := .agg [.lit (.int .i64 a),.lit (.int .i64 b)]
def prR (v:Value):Option (DataW Unit × List MemPlace) :=
 match v with
 | .agg cs=>match cs.toList with
  | [.int .i64 a,.int .i64 b]=>some (prD a b,[])
  | _=>none
 | _=>none
theorem prR_mk (a b:Int):prR (.agg #[.int .i64 a,.int .i64 b])=some (prD a b,[]):=rfl
theorem prR_inj {v:Value} {ps:List MemPlace} {a b:Int} (h:prR v=some (prD a b,ps)):v = .agg #[.int .i64 a,.int .i64 b]:=by
 unfold prR at h;split at h
 ·rename_i cs
  split at h
  ·rename_i a' b' e
   simp [prD] at h;obtain ⟨⟨rfl,rfl⟩,_⟩:=h;congr 1
   exact Array.ext' (by simpa using e)
  ·cases h
 ·cases h
def MapIs (D:DataW Unit) (F G:Nat→Int):Prop:=∀ j:Nat,D.atKey (keyL (j:Int)) (prD 0 0)=prD (F j) (G j)
def f1W (zs:List Int) (k j:Nat):Int:=if j<k then swt zs j else 0
def f1M (zs:List Int) (k j:Nat):Int:=if j<k then smt zs j else 0
def f2W (zs cs:List Int) (m i j:Nat):Int:=if isC cs i j=true then 0 else f1W zs m j
def f2M (zs cs:List Int) (m i j:Nat):Int:=if isC cs i j=true then 0 else f1M zs m j
theorem mapIs_0 (zs:List Int):MapIs (.map []) (f1W zs 0) (f1M zs 0):=fun j=>by simp [f1W,f1M,DataW.atKey]
theorem mapIs_put {D:DataW Unit} {zs:List Int} {k:Nat} (hD:IsMap D) (h:MapIs D (f1W zs k) (f1M zs k)):MapIs (D.put (keyL (k:Int)) (prD (swt zs k) (smt zs k))) (f1W zs (k+1)) (f1M zs (k+1)):=by
 intro j;by_cases e:j=k
 ·subst e
  rw [atKey_put_same hD (by exact trivial)];simp [f1W,f1M]
 ·rw [atKey_put_other (keyL_ne (by omega)),h j]
  unfold f1W f1M;by_cases h1:j<k
  ·rw [if_pos h1,if_pos h1,if_pos (show j<k+1 by omega),if_pos (show j<k+1 by omega)]
  ·rw [if_neg h1,if_neg h1,if_neg (show ¬ j<k+1 by omega),if_neg (show ¬ j<k+1 by omega)]
theorem mapIs_del {D:DataW Unit} {zs cs:List Int} {m i:Nat} (h:MapIs D (f2W zs cs m i) (f2M zs cs m i)):MapIs (D.del (keyL (nth cs i))) (f2W zs cs m (i+1)) (f2M zs cs m (i+1)):=by
 intro j;by_cases e:nth cs i=(j:Int)
 ·rw [e,atKey_del_same]
  simp [f2W,f2M,isC,e]
 ·rw [atKey_del_other (keyL_ne (fun h=>e h.symm)),h j]
  simp [f2W,f2M,isC,e]
theorem mapIs_12 {D:DataW Unit} {zs:List Int} (cs:List Int) {m:Nat} (h:MapIs D (f1W zs m) (f1M zs m)):MapIs D (f2W zs cs m 0) (f2M zs cs m 0):=fun j=>by
 rw [h j];simp [f2W,f2M,isC]
theorem f2_stg {zs cs:List Int} {m q j:Nat} (hj:j<m):f2W zs cs m q j=stgW zs cs q j∧f2M zs cs m q j=stgM zs cs q j:=by
 simp [f2W,f2M,f1W,f1M,stgW,stgM,hj]
theorem stgL_fill {zs cs:List Int} {q m k:Nat} (hk:k<m):(fun j=>if j=k*2+1 then Value.int .i64 (stgM zs cs q k) else if j=k*2 then Value.int .i64 (stgW zs cs q k) else fill (stgL zs cs q m) (k*2) j)=fill (stgL zs cs q m) ((k+1)*2):=by
 funext j
 have h:=stgL_nth zs cs q hk;have h2:=fill_step2 (stgL zs cs q m) (k*2) j;rw [h.1,h.2] at h2;rw [h2,show (k+1)*2=k*2+2 by omega]
theorem wf_inM {x:Int} (h : -9223372036854775808≤x∧x≤9223372036854775807):(Lit.int .i64 x).wf=true:=by
 simp [Lit.wf,IntKind.min,IntKind.max,IntKind.signed,IntKind.bits];omega
end
end X
namespace X
open Go.RowKit
section
open Go.RowKit
structure SSp (w wr:World) (va:Value) (zs xs:List Int) (k:Nat) (v5:Value):Prop where
 arch:RowF wr w.heap.size 26 1 (fun _=>va)
 own:OwnR wr (w.heap.size+1) 65 4 v5 (k*2) (rowTo zs (sumW xs) (sumM xs) k)
 below:Below w.heap.size w wr
theorem SSp.after {w wr w':World} {va:Value} {zs xs:List Int} {k:Nat} {v5:Value} (h:SSp w wr va zs xs k v5) (hb:Below wr.heap.size wr w'):SSp w w' va zs xs k v5:=⟨h.arch.after hb,h.own.below hb,h.below.trans (hb.mono h.below.size)⟩
end
end X
namespace X
open Go.RowKit Go.Maps
theorem lawIntM:Keyed Tryzx.prog 3:=int_keyed Tryzx.underlying3
theorem zeroWt (w:World):(zeroValue 105).run Tryzx.prog w = .ok (.agg #[.int .i64 0,.int .i64 0]) w:=by kernel_rfl
structure SMk (W1 wr:World) (g m k:Nat) (D:DataW Unit) (zs:List Int):Prop where
 own:wr.ownsMap Tryzx.prog 3 prR W1.heap.size k D
 mp:MapIs D (f1W zs k) (f1M zs k)
 row:RowF wr g 105 (m*2) (ints (wmL zs [] 0 m))
 below:Below W1.heap.size W1 wr
theorem rowC_new2M (w:World) (a b:Int) (T:TypeId):RowF (w.alloc (.cells #[.int .i64 a,.int .i64 b] T)) w.heap.size T 2 (ints [a,b]) :=
 RowF.of_row (World.rowIs_alloc w #[.int .i64 a,.int .i64 b] T _ (fun j hj=>by simp at hj; match j,hj with | 0,_=>rfl | 1,_=>rfl))
theorem pr_look {w:World} {D:DataW Unit} {b n:Nat} {F G:Nat→Int} (h:w.ownsMap Tryzx.prog 3 prR b n D) (hm:MapIs D F G) (j:Nat) (hj:j≤1048576) :
  (Instr.lookup 101 (.map (some b)) (.int .i64 (j:Int)) false).run Tryzx.prog w = .ok (.agg #[.int .i64 (F j),.int .i64 (G j)]) w:=by
 obtain ⟨v,ps,hrun,hv⟩:=h.lookup lawIntM Tryzx.underlying101 (zeroWt _) (prR_mk 0 0) (keyOf_int_mk Tryzx.underlying3 (wf_inM (x:=(j:Int)) (by omega)));rw [show (Lit.int .i64 (j:Int))=keyL (j:Int) from rfl,hm j] at hv;rw [hrun,prR_inj hv]
set_option maxRecDepth 100000 in
set_option maxHeartbeats 6400000 in
theorem iStageRowsN_any (A:Option Addr) (n c:Nat) (zs:List Int) (B:Option Addr) (q d:Nat) (cs:List Int) (w:World) (h:RecsAt w w.heap.size 4 A n zs) (hn:n≤1048576) (hi:IntsAt w w.heap.size B q cs) (hq:q≤1048576) :
  Calls Tryzx.prog 41 #[.agg #[.slice A n c],.slice B q d] w (RowsPostN w (stgN zs n cs q) (stgR zs n cs q)):=by
 have b0:Below w.heap.size w (w.alloc (.cells #[.slice A n c] 26)):=(Below.refl _ _).alloc (Nat.le_refl _) _;have h1:=h.after b0;have l1:=hi.after b0;have bx0:Box (w.alloc (.cells #[.slice A n c] 26)) w.heap.size (.slice A n c):=Box.new _ _ _;cases hL:carriedB zs n cs q
 ·have HF:=Lib.hid (stg_f hL)
  go_enter Tryzx.func41,Tryz.ntmps41;go_wp2_with fail
  refine (iCarriedOk_any _ _ _ zs _ _ _ cs _ h1 hn l1 hq).mono ?_;rw [hL];rintro e w1 ⟨rfl,hb1⟩;have HB1:=Lib.hid (below_then b0 hb1);clear hb1;go_wp2;go_ret;exact ⟨⟨_,rfl,by rw [HF.out.1,HF.out.2]; exact OwnR.nil _ _ _ _,HB1.out⟩,fun _=>rfl⟩
 have HT:=Lib.hid (stg_t hL);obtain ⟨hA,hasc⟩:=carriedB_out hL;have hn8:=(archB_out hA).1;obtain ⟨m,rfl⟩:∃ m,n=m+1:=⟨n - 1,by omega⟩;rw [Nat.add_sub_cancel] at HT;have HA:=Lib.hid hA;have HWM:=Lib.hid (wmok_stg (n:=m+1) cs q m hA);have HASC:=Lib.hid hasc;have HI:=Lib.hid hi;have HH:=Lib.hid h;have hmk:=fun W=>run_make_recs (P:=Tryzx.prog) 102 105 2 16 #[.int .i64 0,.int .i64 0] Tryzx.underlying102 infoWt m (by omega) (by omega) W
 have e1:((m+1:Nat):Int) - 1=(m:Int):=by omega
 have e2:IntKind.i64.wrap (((m+1:Nat):Int) - 1)=(m:Int):=by rw [e1]; exact IntWalk.i64_in _ (by omega)
 have HMK:=Lib.hid hmk;have hmm := @run_makeMap Tryzx.prog;clear h hi hA hasc hmk;go_enter Tryzx.func41,Tryz.ntmps41;go_wp2_with fail
 refine (iCarriedOk_any _ _ _ zs _ _ _ cs _ h1 hn l1 hq).mono ?_;rw [hL];rintro e W1 ⟨rfl,hb1⟩;have HB1:=Lib.hid (below_then b0 hb1);have BX1:=Lib.hid (bx0.after hb1);have h2:=h1.after hb1;have hbm:Below W1.heap.size W1 (W1.alloc (.map #[] 0)):=(Below.refl _ _).alloc (Nat.le_refl _) _;have h3:=h2.after hbm;have BX2:=Lib.hid (BX1.out.after hbm);have HBM:=Lib.hid hbm;have cx2:=BX2.out.1;have cx1:=BX1.out.1;have hLB:loadsB zs (m+1) [] 0=true:=loadsB_t HA.out (by omega) (allTo_0 _);clear hb1 b0 h1 l1 bx0 hL hbm h2;go_wp2_with fail
 refine (weightsOf_any _ _ _ zs none 0 0 [] _ h3 RecsAt.nil hLB).mono ?_;rw [Nat.add_sub_cancel];rintro e W2 ⟨g,rfl,hg,hr2,hb2⟩;have HM0:Hid (SMk W1 W2 g m 0 (.map []) zs):=by
  refine ⟨?_,mapIs_0 zs,hr2,HBM.out.trans (hb2.mono HBM.out.size)⟩;exact (World.ownsMap_made W1 Tryzx.prog 3 prR).kept (row:=none) ⟨hb2.os,hb2.tape,hb2.output,hb2.size,fun i hi _=>hb2.block i hi⟩ (by simp)
 have hgl:W1.heap.size<g:=by simp at hg; omega
 clear hr2 hb2 h3 hLB cx1 cx2 hg hmm;go_wp2;go_loopw [20] (fun v20 wr=>∃ (k:Nat) (D:DataW Unit),k≤m∧v20 = .int .i64 k∧Hid (SMk W1 wr g m k D zs)) (fun v20 _=>m - (intOf v20).toNat)
 case atStart=>exact ⟨0,_,Nat.zero_le _,rfl,HM0⟩
 case round =>
  clear HM0;obtain ⟨k,D,hk,rfl,HM⟩:=hrel;by_cases hlt:k<m
  ·have ki:(k:Int)<(m:Int):=by omega
   have k0:(0:Int)≤(k:Int):=by omega
   have hz:=HM.out.below.size;have hnth:=wmL_nth zs [] 0 hlt;rw [kwTo_0,kmTo_0] at hnth;have x0:wr.cell? ⟨g,k*2,none⟩=some (.int .i64 (swt zs k)):=by
    have h:=HM.out.row.cell (i:=k*2) (by omega);rw [ints_def,hnth.1] at h;exact h
   have x1:wr.cell? ⟨g,k*2+1,none⟩=some (.int .i64 (smt zs k)):=by
    have h:=HM.out.row.cell (i:=k*2+1) (by omega);rw [ints_def,hnth.2] at h;exact h
   have hrl:=HM.out.row.lt;have bn:=rowC_new2M wr (swt zs k) (smt zs k) 105;have y0:(wr.alloc (.cells #[.int .i64 (swt zs k),.int .i64 (smt zs k)] 105)).cell? ⟨wr.heap.size,0,none⟩=some (.int .i64 (swt zs k)):=bn.cell (by omega);have y1:(wr.alloc (.cells #[.int .i64 (swt zs k),.int .i64 (smt zs k)] 105)).cell? ⟨wr.heap.size,1,none⟩=some (.int .i64 (smt zs k)):=bn.cell (by omega);have HOW:=Lib.hid (HM.out.own.alloc (.cells #[.int .i64 (swt zs k),.int .i64 (smt zs k)] 105));have HROW:=Lib.hid (HM.out.row.alloc (.cells #[.int .i64 (swt zs k),.int .i64 (smt zs k)] 105));have HBE:=Lib.hid (HM.out.below.alloc hz (.cells #[.int .i64 (swt zs k),.int .i64 (smt zs k)] 105));have HMP:=Lib.hid (mapIs_put HM.out.own.isMap HM.out.mp);have hkey:keyOf Tryzx.prog 3 (.int .i64 (k:Int))=some (keyL (k:Int)):=keyOf_int_mk Tryzx.underlying3 (wf_inM (x:=(k:Int)) (by omega));clear hnth bn HM;go_wp2_with (at_mapUpdate; refine wpList_mapUpdate_own _ rfl (.tmp 25) (.tmp 26) (.tmp 27) 101 rfl 3 105 lawIntM Tryzx.underlying101 prR W1.heap.size k D rfl (by exact HOW.out) (by unfold maxLen; omega) (.int .i64 (k:Int)) (.agg #[.int .i64 (swt zs k),.int .i64 (smt zs k)]) (keyL (k:Int)) rfl rfl hkey (prD (swt zs k) (smt zs k)) [] rfl ?_; intro w3 hown3 hgr3);have HM3:Hid (SMk W1 w3 g m (k+1) (D.put (keyL (k:Int)) (prD (swt zs k) (smt zs k))) zs) :=
    ⟨hown3,HMP.out,HROW.out.of_block (grown_block hgr3 g (by simp; omega) (by intro e; injection e with e; omega)),HBE.out.grown hgr3 (by simp; omega) (fun j hj=>by cases hj; exact Nat.le_refl _)⟩
   clear hown3 hgr3 hkey;go_wp2;go_roundw
   case rel=>exact ⟨k+1,_,by omega,by go_num,HM3⟩
   case measure=>simp [intOf]; omega
  ·obtain rfl:m=k:=by omega
   have HD:Hid (wr.ownsMap Tryzx.prog 3 prR W1.heap.size m D∧MapIs D (f2W zs cs m 0) (f2M zs cs m 0)∧Below W1.heap.size W1 wr):=⟨HM.out.own,mapIs_12 cs HM.out.mp,HM.out.below⟩;clear HM;go_wp2;go_loopw [31] (fun v31 wr=>∃ (i:Nat) (D:DataW Unit),i≤q∧v31 = .int .i64 i∧Hid (wr.ownsMap Tryzx.prog 3 prR W1.heap.size m D∧MapIs D (f2W zs cs m i) (f2M zs cs m i)∧Below W1.heap.size W1 wr)) (fun v31 _=>q - (intOf v31).toNat)
   case atStart=>exact ⟨0,_,Nat.zero_le _,rfl,HD⟩
   case round =>
    clear HD;obtain ⟨i,D,hi',rfl,HD⟩:=hrel;by_cases hlt:i<q
    ·obtain ⟨bi,oi,rfl,hbi,hci⟩:=HI.out.2 (by omega)
     have x0:wr.cell? ⟨bi,oi+i,none⟩=some (.int .i64 (nth cs i)):=((HB1.out.trans (HD.out.2.2.mono HB1.out.size)).cell (p:=⟨bi,oi+i,none⟩) hbi).trans (hci i hlt);have hin:=asc_in HASC.out hlt;have ki:(i:Int)<(q:Int):=by omega
     have k0:(0:Int)≤(i:Int):=by omega
     have hkey:keyOf Tryzx.prog 3 (.int .i64 (nth cs i))=some (keyL (nth cs i)):=keyOf_int_mk Tryzx.underlying3 (wf_inM (x:=nth cs i) (by omega));clear hci;go_wp2_with (at_delete; refine wpList_delete_own _ rfl (.tmp 35) (.tmp 36) 101 3 rfl 105 lawIntM Tryzx.underlying101 prR W1.heap.size m D rfl (by exact HD.out.1) (.int .i64 (nth cs i)) (keyL (nth cs i)) rfl hkey ?_; intro w3 hown3 htu3);have HD3:Hid (w3.ownsMap Tryzx.prog 3 prR W1.heap.size m (D.del (keyL (nth cs i)))∧MapIs (D.del (keyL (nth cs i))) (f2W zs cs m (i+1)) (f2M zs cs m (i+1))∧Below W1.heap.size W1 w3) :=
      ⟨hown3,mapIs_del HD.out.2.1,HD.out.2.2.grown htu3.grown HD.out.2.2.size (fun j hj=>by cases hj; exact Nat.le_refl _)⟩
     clear hown3 htu3 hkey;go_wp2;go_roundw
     case rel=>exact ⟨i+1,_,by omega,by go_num,HD3⟩
     case measure=>simp [intOf]; omega
    ·obtain rfl:i=q:=by omega
     have cx:wr.cell? ⟨w.heap.size,0,none⟩=some (.slice A (m+1) c):=(HD.out.2.2.cell (p:=⟨w.heap.size,0,none⟩) BX1.out.2).trans BX1.out.1;have hz:=HD.out.2.2.size;have hmk:=HMK.out;have HS0:Hid ((wr.alloc (.cells (madeCells #[.int .i64 0,.int .i64 0] (m*2)) 105)).ownsMap Tryzx.prog 3 prR W1.heap.size m D∧RowF (wr.alloc (.cells (madeCells #[.int .i64 0,.int .i64 0] (m*2)) 105)) wr.heap.size 105 (m*2) (fill (stgL zs cs i m) (0*2))∧Below W1.heap.size W1 (wr.alloc (.cells (madeCells #[.int .i64 0,.int .i64 0] (m*2)) 105))) :=
      ⟨HD.out.1.alloc _,RowF.of_row (rowIs_made0 wr #[.int .i64 0,.int .i64 0] 105 (m*2) (fun j hj=>by simp at hj; match j,hj with | 0,_=>rfl | 1,_=>rfl) (by simp) (stgL zs cs i m)),HD.out.2.2.alloc hz _⟩
     have HMI:=Lib.hid HD.out.2.1;obtain ⟨W3,rfl⟩:∃ W3:World,W3=wr:=⟨_,rfl⟩;have hml:=HD.out.1.lt;clear HD;go_wp2;clear hmk cx;go_loopw [45] (fun v45 wr=>∃ (k:Nat),k≤m∧v45 = .int .i64 k∧Hid (wr.ownsMap Tryzx.prog 3 prR W1.heap.size m D∧RowF wr W3.heap.size 105 (m*2) (fill (stgL zs cs i m) (k*2))∧Below W1.heap.size W1 wr)) (fun v45 _=>m - (intOf v45).toNat)
     case atStart=>exact ⟨0,Nat.zero_le _,rfl,HS0⟩
     case round =>
      clear HS0;obtain ⟨k,hk,rfl,HS⟩:=hrel;by_cases hlt:k<m
      ·have ki:(k:Int)<(m:Int):=by omega
       have k0:(0:Int)≤(k:Int):=by omega
       have hl1:=pr_look HS.out.1 HMI.out k (by omega);rw [(f2_stg hlt).1,(f2_stg hlt).2] at hl1;have z0:wr.cell? ⟨W3.heap.size,k*2,none⟩=some (.int .i64 0):=by
        have h:=HS.out.2.1.cell (i:=k*2) (by omega);rw [fill_at _ (by omega)] at h;exact h
       have z1:wr.cell? ⟨W3.heap.size,k*2+1,none⟩=some (.int .i64 0):=by
        have h:=HS.out.2.1.cell (i:=k*2+1) (by omega);rw [fill_at _ (by omega)] at h;exact h
       have f0:=HS.out.2.1.frozen (k*2);have f1:=HS.out.2.1.frozen (k*2+1);have HS3:Hid (((wr.setCell ⟨W3.heap.size,k*2,none⟩ (.int .i64 (stgW zs cs i k))).setCell ⟨W3.heap.size,k*2+1,none⟩ (.int .i64 (stgM zs cs i k))).ownsMap Tryzx.prog 3 prR W1.heap.size m D∧RowF ((wr.setCell ⟨W3.heap.size,k*2,none⟩ (.int .i64 (stgW zs cs i k))).setCell ⟨W3.heap.size,k*2+1,none⟩ (.int .i64 (stgM zs cs i k))) W3.heap.size 105 (m*2) (fill (stgL zs cs i m) ((k+1)*2))∧Below W1.heap.size W1 ((wr.setCell ⟨W3.heap.size,k*2,none⟩ (.int .i64 (stgW zs cs i k))).setCell ⟨W3.heap.size,k*2+1,none⟩ (.int .i64 (stgM zs cs i k)))):=by
        refine ⟨(HS.out.1.setCell (by simp; omega) _).setCell (by simp; omega) _,?_,(HS.out.2.2.setCell (by simp; omega) _).setCell (by simp; omega) _⟩
        rw [← stgL_fill hlt];exact (HS.out.2.1.set (k*2) _).set (k*2+1) _
       generalize stgW zs cs i k=sw at *
       generalize stgM zs cs i k=sm at *
       clear HS;go_wp2;go_roundw
       case rel=>exact ⟨k+1,by omega,by go_num,HS3⟩
       case measure=>simp [intOf]; omega
      ·obtain rfl:m=k:=by omega
       have cx:wr.cell? ⟨w.heap.size,0,none⟩=some (.slice A (m+1) c):=(HS.out.2.2.cell (p:=⟨w.heap.size,0,none⟩) BX1.out.2).trans BX1.out.1;have r1:=HH.out.below (HB1.out.trans (HS.out.2.2.mono HB1.out.size)) |>.mono (Nat.le_trans HB1.out.size HS.out.2.2.size);have r2:RecsAt wr wr.heap.size 2 (some ⟨W3.heap.size,0,none⟩) m (stgL zs cs i m):=(HS.out.2.1.congr (fun j hj=>fill_end _ hj)).recs (stgL_len _ _ _ _);have HBF:=Lib.hid (HB1.out.trans (HS.out.2.2.mono HB1.out.size));clear HS;go_wp2_with fail
       refine (rowsFor_any _ _ _ zs _ _ (stgL zs cs i m) _ r1 (by exact r2) HA.out HWM.out).mono ?_;rintro e w5 ⟨v5,rfl,ho5,hb5⟩;obtain ⟨A5,c5,rfl,_⟩:=ho5.slice;have HO5:=Lib.hid (ho5.weaken HBF.out.size);have HB5:=Lib.hid (below_then HBF.out hb5);clear ho5 hb5;go_wp2;go_ret;exact ⟨⟨_,rfl,by rw [HT.out.1,HT.out.2]; exact HO5.out,HB5.out⟩,fun h0=>by have:=HT.out.1; omega⟩
end X
namespace X
open Go.RowKit
theorem stgN_few (zs:List Int) (n:Nat) (cs:List Int) (q:Nat):stgN zs n cs q≤17:=by
 unfold stgN;split
 ·rename_i h
  have:=(archB_out (carriedB_out h).1).1;omega
 ·omega
def stgB (zs:List Int) (n:Nat) (cs:List Int) (q:Nat):Bool:=decide (0<cornN (stgR zs n cs q) (stgN zs n cs q))
section
variable (A : Option Addr) (n c : Nat) (zs : List Int) (B : Option Addr) (q d : Nat) (cs : List Int) (w : World) (h : RecsAt w w.heap.size 4 A n zs) (hn : n ≤ 1048576) (hi : IntsAt w w.heap.size B q cs) (hq : q ≤ 1048576)
include h hn hi hq
set_option maxRecDepth 100000 in
set_option maxHeartbeats 3200000 in
theorem iStageStands_any:Calls Tryzx.prog 33 #[.agg #[.slice A n c],.slice B q d] w fun e w'=>e = .returned (.bool (stgB zs n cs q))∧Below w.heap.size w w':=by
 have b0:Below w.heap.size w (w.alloc (.cells #[.slice A n c] 26)):=(Below.refl _ _).alloc (Nat.le_refl _) _;have h1:=h.after b0;have l1:=hi.after b0;have bx0:Box (w.alloc (.cells #[.slice A n c] 26)) w.heap.size (.slice A n c):=Box.new _ _ _;have cx0:=bx0.1;go_enter Tryzx.func33,Tryz.ntmps33;go_wp2_with fail
 refine (iStageRowsN_any _ _ _ zs _ _ _ cs _ (by exact h1) hn (by exact l1) hq).mono ?_;rintro e w1 ⟨⟨v1,rfl,ho1,hb1⟩,hz1⟩;have bx1:=bx0.after hb1;have cx1:=bx1.1;have HB1:=Lib.hid (below_then b0 hb1);obtain ⟨A1,c1,rfl,_⟩:=ho1.slice;have r1:=ho1.recs;have n1:stgN zs n cs q=0→A1=none:=fun h0=>by have:=hz1 h0; simp at this; exact this.1
 go_wp2_with fail
 refine (xCorners_any _ _ _ (stgR zs n cs q) _ (by exact r1) (by have:=stgN_few zs n cs q; omega) n1).mono ?_
 rintro e w2 ⟨v2,rfl,he2,hb2⟩;have ho2:=he2.own;have cx2:=(bx1.after hb2).1;have HB2:=Lib.hid (below_then HB1.out hb2);obtain ⟨A2,c2,rfl,_⟩:=ho2.slice;clear he2 n1 hz1 ho2 hb2 ho1 hb1 r1 bx1 cx0 cx1 cx2;go_wp2;go_ret;exact ⟨rfl,HB2.out⟩
omit hi hq in
set_option maxRecDepth 100000 in
set_option maxHeartbeats 3200000 in
theorem iFree_any:Calls Tryzx.prog 29 #[.agg #[.slice A n c]] w fun e w'=>e = .returned (.bool (stgB zs n [] 0))∧Below w.heap.size w w':=by
 have b0:Below w.heap.size w (w.alloc (.cells #[.slice A n c] 26)):=(Below.refl _ _).alloc (Nat.le_refl _) _
 have h1:=h.after b0
 have bx0:Box (w.alloc (.cells #[.slice A n c] 26)) w.heap.size (.slice A n c):=Box.new _ _ _
 have cx0:=bx0.1
 go_enter Tryzx.func29,Tryz.ntmps29
 go_wp2_with fail
 refine (iStageStands_any _ _ _ zs _ _ _ [] _ (by exact h1) hn ⟨by simp,fun h=>absurd h (by omega)⟩ (by omega)).mono ?_
 rintro e w1 ⟨rfl,hb1⟩
 have HB1:=Lib.hid (below_then b0 hb1)
 clear hb1
 go_wp2
 go_ret
 exact ⟨rfl,HB1.out⟩
end
end X
section
open Go.RowKit
def p2 (k:Nat):Nat:=2 ^ k
theorem p2_pos (k:Nat):0<p2 k:=Nat.two_pow_pos k
theorem p2_le (n:Nat) (h:n≤10):p2 n≤1024:=Nat.pow_le_pow_right (by omega) h
theorem wrap_p2 (n:Nat) (h:n≤10):wrap64 (2 ^ n)=((p2 n:Nat):Int):=by
 have h1:=p2_le n h;have e:(2:Int) ^ n=((p2 n:Nat):Int):=by simp [p2]
 rw [e];unfold wrap64;omega
end
section
open Go.RowKit
def setL (s:Nat):Nat→List Int
 | 0 => []
 | k+1=>if s / p2 k % 2=1 then setL s k ++ [(k:Int)] else setL s k
theorem setL_yes {s k:Nat} (h:s / p2 k % 2=1):setL s (k+1)=setL s k ++ [(k:Int)]:=by simp [setL,h]
theorem setL_no {s k:Nat} (h:¬ s / p2 k % 2=1):setL s (k+1)=setL s k:=by simp [setL,h]
theorem setL_len (s:Nat):∀ k,(setL s k).length≤k
 | 0=>Nat.le_refl _
 | k+1=>by
  have ih:=setL_len s k;by_cases h:s / p2 k % 2=1
  ·rw [setL_yes h,List.length_append]; simp; omega
  ·rw [setL_no h]; omega
theorem p2_add (k j:Nat):p2 k≤p2 (k+j):=Nat.pow_le_pow_right (by omega) (by omega)
theorem setL_far {s k:Nat} (h:s<p2 k):∀ j,setL s (k+j)=setL s k
 | 0=>rfl
 | j+1=>by
  have h1:=p2_add k j;have h2:s / p2 (k+j)=0:=Nat.div_eq_of_lt (by omega);rw [← Nat.add_assoc,setL_no (by rw [h2]; decide),setL_far h j]
theorem setL_top {s k m:Nat} (h:s<p2 m) (hk:s / p2 k=0):setL s k=setL s m:=by
 have hk':s<p2 k:=by
  rcases Nat.lt_or_ge s (p2 k) with h' | h'
  ·exact h'
  ·have:=Nat.div_pos h' (p2_pos k); omega
 rcases Nat.le_total k m with e | e
 ·obtain ⟨j,rfl⟩:=Nat.exists_eq_add_of_le e
  exact (setL_far hk' j).symm
 ·obtain ⟨j,rfl⟩:=Nat.exists_eq_add_of_le e
  exact setL_far h j
theorem p2_7 {n:Nat} (h:n≤7):p2 n≤128:=Nat.pow_le_pow_right (by omega) h
theorem set_more {s k:Nat} (hs:s<128) (h:s / p2 k ≠ 0):k<7:=by
 rcases Nat.lt_or_ge k 7 with e | e
 ·exact e
 ·obtain ⟨j,rfl⟩:=Nat.exists_eq_add_of_le e
  have h1:=p2_add 7 j;have h2:p2 7=128:=by decide
  exact absurd (Nat.div_eq_of_lt (by omega)) h
theorem ubit_fin:∀ S:Fin 128,bits .and .u64 (S.val:Int) 1=((S.val % 2:Nat):Int):=by decide +kernel
theorem ubit_at {s k:Nat} (h:s<128):bits .and .u64 ((s / p2 k:Nat):Int) 1=((s / p2 k % 2:Nat):Int) :=
 ubit_fin ⟨s / p2 k,Nat.lt_of_le_of_lt (Nat.div_le_self _ _) h⟩
theorem div_p2 (s k:Nat):(s:Int) / 2 ^ k=((s / p2 k:Nat):Int):=by simp [p2]
theorem u64_in (x:Int) (h:0≤x∧x≤18446744073709551615):IntKind.u64.wrap x=x:=by
 rw [IntKind.wrap_u64]; omega
theorem uwrap_p2 (n:Nat) (h:n≤7):IntKind.u64.wrap (2 ^ n)=((p2 n:Nat):Int):=by
 have h1:=p2_7 h;have e:(2:Int) ^ n=((p2 n:Nat):Int):=by simp [p2]
 rw [e];exact u64_in _ (by omega)
def cntS (f:Nat→Bool):Nat→Nat
 | 0=>0
 | s+1=>if f s=true then cntS f s+1 else cntS f s
theorem cntS_le (f:Nat→Bool):∀ s,cntS f s≤s
 | 0=>Nat.le_refl _
 | s+1=>by have:=cntS_le f s; unfold cntS; split <;> omega
theorem cntS_yes {f:Nat→Bool} {s:Nat} (h:f s=true):cntS f (s+1)=cntS f s+1:=by simp [cntS,h]
theorem cntS_no {f:Nat→Bool} {s:Nat} (h:f s=false):cntS f (s+1)=cntS f s:=by simp [cntS,h]
end
section
open Go.RowKit
theorem ownB_below {B base:Nat} {E:TypeId} {a w w':World} {v:Value} {xs:List Int} {o:Obj} (hb:Below B a w) (hB:B≤w.heap.size) (hown:OwnV w base E v xs) (h:B≤base) (hg:(w.alloc o).grownBy w' v.ownBlock):Below B a w' :=
 (hb.alloc hB o).grown hg (by simp; omega) (fun k hk=>Nat.le_trans h (hown.ownLt k hk))
end
section
open Go.RowKit
theorem OwnV.sliceN {w:World} {base:Nat} {E:TypeId} {v:Value} {xs:List Int} (h:OwnV w base E v xs):∃ A l c,v = .slice A l c:=by
 rcases h.form with ⟨rfl,_⟩ | ⟨g,cap,rfl,_⟩ <;> exact ⟨_,_,_,rfl⟩
theorem OwnV.weakenN {w:World} {base base':Nat} {E:TypeId} {v:Value} {xs:List Int} (h:OwnV w base E v xs) (hb:base'≤base):OwnV w base' E v xs:=by
 refine ⟨h.1,?_⟩;rcases h.2 with h2 | ⟨g,cap,cur,h1,h2,h3⟩
 ·exact .inl h2
 ·exact .inr ⟨g,cap,cur,h1,Nat.le_trans hb h2,h3⟩
theorem OwnV.afterN {w w':World} {base:Nat} {E:TypeId} {v:Value} {xs:List Int} (h:OwnV w base E v xs) (hb:Below w.heap.size w w'):OwnV w' base E v xs:=h.below hb
end
namespace X
open Go.RowKit
def SetPost (w:World) (L:List Int) (e:Ending) (w':World):Prop :=
 ∃ v,e = .returned v∧OwnV w' w.heap.size 3 v L∧Below w.heap.size w w'
set_option maxRecDepth 100000 in
set_option maxHeartbeats 1600000 in
theorem iSet_any (s m:Nat) (hs:s<p2 m) (hm:m≤7) (w:World):Calls Tryzx.prog 86 #[.int .u64 s] w (SetPost w (setL s m)):=by
 have hs7:s<128:=Nat.lt_of_lt_of_le hs (p2_7 hm);go_enter Tryzx.func86,Tryz.ntmps86;go_wp2;go_loopw [3,4] (fun v i wr=>∃ k:Nat,k≤7∧i = .int .i64 k∧OwnV wr w.heap.size 3 v (setL s k)∧Below w.heap.size w wr) (fun _ i _=>7 - (intOf i).toNat)
 case atStart=>exact ⟨0,Nat.zero_le _,rfl,OwnV.nil _ _ _,Below.refl _ _⟩
 case round =>
  obtain ⟨k,hk,rfl,hown,hb⟩:=hrel;have HB:=Lib.hid hb;have HO:=Lib.hid hown;have hlen:=setL_len s k;have hdiv:=div_p2 s k;clear hb hown;by_cases hz:s / p2 k=0
  ·have HT:=Lib.hid (setL_top hs hz)
   have ht:((s:Int) / 2 ^ k != 0)=false:=by rw [hdiv,hz]; rfl
   clear hz hdiv;go_wp2;go_ret;exact ⟨_,rfl,by rw [← HT.out]; exact HO.out,HB.out⟩
  ·have hlt:k<7:=set_more hs7 hz
   have i1:IntKind.i64.wrap ((k:Int)+1)=(k:Int)+1:=IntWalk.i64_in _ (by omega);have hn:((s:Int) / 2 ^ k != 0)=true:=by rw [hdiv]; simp; omega
   have HBIT:Hid (bits .and .u64 ((s:Int) / 2 ^ k) 1=((s / p2 k % 2:Nat):Int)):=Lib.hid (by rw [hdiv]; exact ubit_at hs7);clear hz hdiv;by_cases hbit:s / p2 k % 2=1
   ·have ht:(bits BinOp.and IntKind.u64 ((s:Int) / 2 ^ k) 1 == 1)=true:=by rw [HBIT.out,hbit]; rfl
    have HU:=Lib.hid (setL_yes hbit);clear hbit;go_wp2_with (at_builtin; refine wpList_append_int _ rfl (.tmp 16) (.tmp 18) 54 rfl w.heap.size 3 Tryzx.underlying54 infoInt _ (setL s k) rfl (HO.out.alloc _) _ _ (k:Int) rfl (cell_new1 _ _ _) (by omega) (by have:=HB.out.size; simp; omega) ?_; intro g' cap' w1 hown1 hgr1);have hb1:=ownB_below HB.out HB.out.size HO.out (Nat.le_refl _) hgr1;have hv1:=hown1.toV;rw [List.length_append,← HU.out] at hv1;go_wp2;go_roundw
    case rel=>exact ⟨k+1,by omega,by go_num,hv1,hb1⟩
    case measure=>simp [intOf]; omega
   ·have ho:s / p2 k % 2=0:=by omega
    have ht:(bits BinOp.and IntKind.u64 ((s:Int) / 2 ^ k) 1 == 1)=false:=by rw [HBIT.out,ho]; rfl
    have HU:=Lib.hid (setL_no hbit);clear hbit ho;go_wp2;go_roundw
    case rel=>exact ⟨k+1,by omega,by go_num,by rw [HU.out]; exact HO.out,HB.out⟩
    case measure=>simp [intOf]; omega
end X
namespace X
open Go.RowKit
def cstN (zs:List Int) (n:Nat):Nat:=if archB zs n=true then n - 1 else 0
theorem cstN_t {zs:List Int} {n:Nat} (h:archB zs n=true):cstN zs n=n - 1:=by simp only [cstN,h,if_pos]
theorem cstN_f {zs:List Int} {n:Nat} (h:archB zs n=false):cstN zs n=0:=by simp [cstN,h]
theorem cstN_le (zs:List Int) (n:Nat):cstN zs n≤7:=by
 cases h:archB zs n
 ·rw [cstN_f h]; omega
 ·have:=(archB_out h).1; rw [cstN_t h]; omega
theorem cstN_pos {zs:List Int} {n:Nat} (h:archB zs n=true):2≤cstN zs n:=by
 have:=(archB_out h).1; rw [cstN_t h]; omega
def setB (zs:List Int) (n s:Nat):Bool:=stgB zs n (setL s (cstN zs n)) (setL s (cstN zs n)).length
def stagesN (zs:List Int) (n:Nat):Nat:=if archB zs n=true then cntS (setB zs n) (p2 (cstN zs n)) else 0
theorem stagesN_t {zs:List Int} {n:Nat} (h:archB zs n=true):stagesN zs n=cntS (setB zs n) (p2 (cstN zs n)):=by simp [stagesN,h]
theorem stagesN_f {zs:List Int} {n:Nat} (h:archB zs n=false):stagesN zs n=0:=by simp [stagesN,h]
section
variable (A : Option Addr) (n c : Nat) (zs : List Int) (w : World) (h : RecsAt w w.heap.size 4 A n zs) (hn : n ≤ 1048576)
include h hn
set_option maxRecDepth 100000 in
set_option maxHeartbeats 1600000 in
theorem sCst_any:Calls Tryzx.prog 40 #[.agg #[.slice A n c]] w fun e w'=>e = .returned (.int .i64 (cstN zs n:Nat))∧Below w.heap.size w w':=by
 have b0:Below w.heap.size w (w.alloc (.cells #[.slice A n c] 26)):=(Below.refl _ _).alloc (Nat.le_refl _) _;have HX:Hid (Box (w.alloc (.cells #[.slice A n c] 26)) w.heap.size (.slice A n c)):=Lib.hid (Box.new _ _ _);have h1:=h.after b0;cases hA:archB zs n
 ·have HN:Hid ((0:Int)=((cstN zs n:Nat):Int)):=Lib.hid (by rw [cstN_f hA]; rfl)
  have cx0:=HX.out.1;go_enter Tryzx.func40,Tryz.ntmps40;go_wp2_with fail
  refine (sArchOk_any _ _ _ zs _ (by exact h1) hn).mono ?_;rw [hA];rintro e w1 ⟨rfl,hb1⟩;have HB1:=Lib.hid (below_then b0 hb1);clear hb1 b0 h h1;go_wp2;go_ret;exact ⟨by rw [← HN.out]; rfl,HB1.out⟩
 ·have hn8:=(archB_out hA).1
  have HN:Hid ((n:Int) - 1=((cstN zs n:Nat):Int)):=Lib.hid (by rw [cstN_t hA]; omega)
  have e1:IntKind.i64.wrap ((n:Int) - 1)=(n:Int) - 1:=IntWalk.i64_in _ (by omega);have cx0:=HX.out.1;go_enter Tryzx.func40,Tryz.ntmps40;go_wp2_with fail
  refine (sArchOk_any _ _ _ zs _ (by exact h1) hn).mono ?_;rw [hA];rintro e w1 ⟨rfl,hb1⟩;have HB1:=Lib.hid (below_then b0 hb1);have cx1:=(HX.out.after hb1).1;clear hb1 b0 h h1 cx0;go_wp2;go_ret;exact ⟨by rw [← HN.out]; rfl,HB1.out⟩
set_option maxRecDepth 100000 in
set_option maxHeartbeats 1600000 in
theorem iCst_any:Calls Tryzx.prog 85 #[.agg #[.slice A n c]] w fun e w'=>e = .returned (.int .i64 (cstN zs n:Nat))∧Below w.heap.size w w':=by
 have b0:Below w.heap.size w (w.alloc (.cells #[.slice A n c] 26)):=(Below.refl _ _).alloc (Nat.le_refl _) _;have HX:Hid (Box (w.alloc (.cells #[.slice A n c] 26)) w.heap.size (.slice A n c)):=Lib.hid (Box.new _ _ _);have h1:=h.after b0;cases hA:archB zs n
 ·have HN:Hid ((0:Int)=((cstN zs n:Nat):Int)):=Lib.hid (by rw [cstN_f hA]; rfl)
  have cx0:=HX.out.1;go_enter Tryzx.func85,Tryz.ntmps85;go_wp2_with fail
  refine (iArchOk_any _ _ _ zs _ (by exact h1) hn).mono ?_;rw [hA];rintro e w1 ⟨rfl,hb1⟩;have HB1:=Lib.hid (below_then b0 hb1);clear hb1 b0 h h1;go_wp2;go_ret;exact ⟨by rw [← HN.out]; rfl,HB1.out⟩
 ·have hn8:=(archB_out hA).1
  have HN:Hid ((n:Int) - 1=((cstN zs n:Nat):Int)):=Lib.hid (by rw [cstN_t hA]; omega)
  have e1:IntKind.i64.wrap ((n:Int) - 1)=(n:Int) - 1:=IntWalk.i64_in _ (by omega);have cx0:=HX.out.1;go_enter Tryzx.func85,Tryz.ntmps85;go_wp2_with fail
  refine (iArchOk_any _ _ _ zs _ (by exact h1) hn).mono ?_;rw [hA];rintro e w1 ⟨rfl,hb1⟩;have HB1:=Lib.hid (below_then b0 hb1);have cx1:=(HX.out.after hb1).1;clear hb1 b0 h h1 cx0;go_wp2;go_ret;exact ⟨by rw [← HN.out]; rfl,HB1.out⟩
set_option maxRecDepth 100000 in
set_option maxHeartbeats 3200000 in
theorem iStages_any:Calls Tryzx.prog 36 #[.agg #[.slice A n c]] w fun e w'=>e = .returned (.int .i64 (stagesN zs n:Nat))∧Below w.heap.size w w':=by
 have b0:Below w.heap.size w (w.alloc (.cells #[.slice A n c] 26)):=(Below.refl _ _).alloc (Nat.le_refl _) _;have HX:Hid (Box (w.alloc (.cells #[.slice A n c] 26)) w.heap.size (.slice A n c)):=Lib.hid (Box.new _ _ _);have HH:=Lib.hid h;have h1:=h.after b0;have cx0:=HX.out.1;have hm7:=cstN_le zs n;cases hA:archB zs n
 ·have HN:Hid ((0:Int)=((stagesN zs n:Nat):Int)):=Lib.hid (by rw [stagesN_f hA]; rfl)
  go_enter Tryzx.func36,Tryz.ntmps36;go_wp2_with fail
  refine (iArchOk_any _ _ _ zs _ (by exact h1) hn).mono ?_;rw [hA];rintro e w1 ⟨rfl,hb1⟩;have HB1:=Lib.hid (below_then b0 hb1);clear hb1 b0 h h1 cx0;go_wp2;go_ret;exact ⟨by rw [← HN.out]; rfl,HB1.out⟩
 ·have hm2:=cstN_pos hA
  have HN:Hid (stagesN zs n=cntS (setB zs n) (p2 (cstN zs n))):=Lib.hid (stagesN_t hA);have HS:Hid (∀ s,setB zs n s=stgB zs n (setL s (cstN zs n)) (setL s (cstN zs n)).length):=Lib.hid (fun s=>rfl);obtain ⟨m,hm⟩:∃ m,cstN zs n=m:=⟨_,rfl⟩;rw [hm] at HN HS hm7 hm2;have hsh:=uwrap_p2 m hm7;have hp7:=p2_7 hm7;go_enter Tryzx.func36,Tryz.ntmps36;go_wp2_with fail
  refine (iArchOk_any _ _ _ zs _ (by exact h1) hn).mono ?_;rw [hA];rintro e wq ⟨rfl,hbq⟩;have HBq:=Lib.hid (below_then b0 hbq);have HXq:=Lib.hid (HX.out.after hbq);have hq:=HH.out.after HBq.out;have cxq:=HXq.out.1;clear hbq b0 h h1 cx0 HX;go_wp2_with fail
  refine (iCst_any _ _ _ zs _ (by exact hq) hn).mono ?_;rw [hm];rintro e w1 ⟨rfl,hb1⟩;have HB1:=Lib.hid (below_then HBq.out hb1);have HX1:=Lib.hid (HXq.out.after hb1);clear hb1 hq cxq HXq HBq;go_wp2;go_loopw [3,11] (fun v4 v5 wr=>∃ S:Nat,v4 = .int .i64 (cntS (setB zs n) S:Nat)∧v5 = .int .u64 S∧S≤p2 m∧Hid (Below w.heap.size w wr)∧Hid (Box wr w.heap.size (.slice A n c))) (fun _ v5 _=>p2 m - (intOf v5).toNat)
  case atStart=>exact ⟨0,rfl,rfl,Nat.zero_le _,HB1,HX1⟩
  case round =>
   clear HB1 HX1;obtain ⟨S,rfl,rfl,hS,HB,HX⟩:=hrel;by_cases hlt:S<p2 m
   ·have i1:IntKind.u64.wrap ((S:Int)+1)=(S:Int)+1:=u64_in _ (by omega)
    have hcl:=cntS_le (setB zs n) S;have i2:IntKind.i64.wrap (((cntS (setB zs n) S:Nat):Int)+1)=((cntS (setB zs n) S:Nat):Int)+1:=IntWalk.i64_in _ (by omega);have hz:w.heap.size≤wr.heap.size:=HB.out.size;have cx1:=HX.out.1;go_wp2_with fail
    go_region_held3 (fun w'=>w'.cell? ⟨w.heap.size,0,none⟩=some (.slice A n c)) (first | exact cx1 | exact cx2 | exact cx3) ((first | (go_at_call 86; refine (iSet_any S m hlt hm7 _).mono ?_; rintro e w2 ⟨v2,rfl,ho2,hbx⟩; have hb2:=below_undrew hbx; obtain ⟨A2,q2,d2,rfl⟩:=ho2.sliceN; have HB2:=Lib.hid (below_then HB.out (hb2)); have HX2:=Lib.hid (HX.out.after hb2); have cx2:=HX2.out.1; obtain rfl:=ho2.len; have l2:=ho2.intsAt; have hq2:=setL_len S m) | (go_at_call 33; refine (iStageStands_any _ _ _ zs _ _ _ (setL S m) _ (by exact HH.out.after HB2.out) hn (by exact l2) (by omega)).mono ?_; rintro e w3 ⟨rfl,hb3⟩; have HB3:=Lib.hid (below_then HB2.out hb3); have HX3:=Lib.hid (HX2.out.after hb3); have cx3:=HX3.out.1)));clear hb2 hbx hb3 ho2 cx1 cx2 cx3 l2 HX2 HB2;have hs:=HS.out S;rw [← hs];clear hs;cases hb:setB zs n S
    ·have HC:=Lib.hid (cntS_no hb)
     go_wp2;go_roundw
     case rel=>exact ⟨S+1,by rw [HC.out],by go_num,by omega,HB3,HX3⟩
     case measure=>simp [intOf]; omega
    ·have HC:=Lib.hid (cntS_yes hb)
     go_wp2;go_roundw
     case rel=>exact ⟨S+1,by rw [HC.out]; go_num,by go_num,by omega,HB3,HX3⟩
     case measure=>simp [intOf]; omega
   ·obtain rfl:S=p2 m:=by omega
    go_wp2;go_ret;exact ⟨by rw [HN.out]; rfl,HB.out⟩
end
end X
namespace X
open Go.RowKit
section
variable {rs : List Int} {n : Nat}
theorem foldN_mono {f:Nat→List Int→List Int} (hf:∀ j a,a.length≤(f j a).length) (a:List Int):∀ t,a.length≤(foldN f t a).length
 | 0=>Nat.le_refl _
 | t+1=>Nat.le_trans (foldN_mono hf a t) (hf t _)
theorem foldN_hit {f:Nat→List Int→List Int} (hf:∀ j a,a.length≤(f j a).length) {j:Nat} (hj:∀ a,0<(f j a).length) (a:List Int):∀ t,j<t→0<(foldN f t a).length
 | 0,h=>absurd h (by omega)
 | t+1,h=>by
  by_cases e:j=t
  ·subst e; exact hj _
  ·exact Nat.lt_of_lt_of_le (foldN_hit hf hj a t (by omega)) (hf t _)
theorem crStep_mono (i k m:Nat) (acc:List Int):acc.length≤(crStep rs n i k m acc).length:=by
 unfold crStep;split
 ·rw [List.length_append]; omega
 ·exact Nat.le_refl _
theorem crStep_hit {i k m:Nat} (h1:crB rs i k m=true) (h3:crAll rs n i k m=true) (acc:List Int):0<(crStep rs n i k m acc).length:=by
 cases h2:crHas rs acc i k m
 ·rw [crStep_t h1 h2 h3,List.length_append]; simp
 ·rw [crStep_2 h2]
  rcases Nat.eq_zero_or_pos acc.length with e | e
  ·rw [crHas,e] at h2; simp [hasTo] at h2
  ·exact e
theorem corM_mono (i k:Nat) (acc:List Int) (t:Nat):acc.length≤(corM rs n i k acc t).length:=foldN_mono (fun _ _=>crStep_mono _ _ _ _) _ _
theorem corK_mono (i:Nat) (acc:List Int) (t:Nat):acc.length≤(corK rs n i acc t).length:=foldN_mono (fun _ _=>corM_mono _ _ _ _) _ _
theorem cornN_pos (hB:cornB rs n=true) {i k m:Nat} (hik:i<k) (hkm:k<m) (hmn:m<n) (h1:crB rs i k m=true) (h3:crAll rs n i k m=true):0<cornN rs n:=by
 have hpos:0<(cornL rs n).length:=by
  rw [cornL_t hB];refine foldN_hit (fun _ _=>corK_mono _ _ _) (j:=i) (fun a => ?_) _ _ (by omega);refine foldN_hit (fun _ _=>corM_mono _ _ _ _) (j:=k - (i+1)) (fun a => ?_) _ _ (by omega);have e1:i+1+(k - (i+1))=k:=by omega
  rw [e1];refine foldN_hit (fun _ _=>crStep_mono _ _ _ _) (j:=m - (k+1)) (fun a => ?_) _ _ (by omega);have e2:k+1+(m - (k+1))=m:=by omega
  rw [e2];exact crStep_hit h1 h3 a
 have:=(corn_acc rs n).len;omega
end
theorem mkG_0 (D:Int):mkG 0 0 0 D=D:=by
 unfold mkG gcd4;simp;split <;> omega
theorem mkI_0 (D:Int):mkI 0 0 0 D 0=0:=by
 unfold mkI;split <;> simp
theorem mkB_00 {D:Int} (h0:¬ D=0) (hD:okG D):mkB 0 0 0 D=true:=by
 refine mkB_t h0 ?_ ?_
 ·unfold okG at hD
  simp only [mkBd,Bool.and_eq_true,inB_iff];omega
 ·unfold mkT
  rw [mkG_0,Int.tdiv_self h0];simp only [Int.zero_tdiv];decide
theorem mkI_D {D:Int} (h0:¬ D=0) (hD:okG D):mkI 0 0 0 D D=1:=by
 rw [mkI_t (mkB_00 h0 hD),mkG_0,Int.tdiv_self h0]
theorem det_d0 (a1 a2 b1 b2 c1 c2:Int):det9 0 a1 a2 0 b1 b2 0 c1 c2=0:=by simp [det9]
theorem det_d1 (a1 a2 b1 b2 c1 c2:Int):det9 a1 0 a2 b1 0 b2 c1 0 c2=0:=by simp [det9]
theorem det_d2 (a1 a2 b1 b2 c1 c2:Int):det9 a1 a2 0 b1 b2 0 c1 c2 0=0:=by simp [det9]
theorem cornN_zero {rs:List Int} {n:Nat} (hB:cornB rs n=true) (hz:∀ i,i<n→nth rs (i*4+3)=0) (hn:3≤n)
  (hD:¬ det9 (nth rs 0) (nth rs 1) (nth rs 2) (nth rs 4) (nth rs 5) (nth rs 6) (nth rs 8) (nth rs 9) (nth rs 10)=0):0<cornN rs n:=by
 have hr:∀ i,i<n→rowAt rs i=true:=by
  simp only [cornB,Bool.and_eq_true] at hB;exact fun i hi=>allB_out hB.1 i hi
 have r0:=hr 0 (by omega);have r1:=hr 1 (by omega);have r2:=hr 2 (by omega);have z0:=hz 0 (by omega);have z1:=hz 1 (by omega);have z2:=hz 2 (by omega);unfold rowAt at r0 r1 r2;have hs:solD (nth rs (0*4)) (nth rs (0*4+1)) (nth rs (0*4+2)) (nth rs (0*4+3)) (nth rs (1*4)) (nth rs (1*4+1)) (nth rs (1*4+2)) (nth rs (1*4+3)) (nth rs (2*4)) (nth rs (2*4+1)) (nth rs (2*4+2)) (nth rs (2*4+3))=det9 (nth rs 0) (nth rs 1) (nth rs 2) (nth rs 4) (nth rs 5) (nth rs 6) (nth rs 8) (nth rs 9) (nth rs 10):=by
  unfold solD;rw [r0,r1,r2];rfl
 have hok:=(rows_det r0 r1 r2).1.out;have hok':okG (det9 (nth rs 0) (nth rs 1) (nth rs 2) (nth rs 4) (nth rs 5) (nth rs 6) (nth rs 8) (nth rs 9) (nth rs 10)):=hok;have hb:crB rs 0 1 2=true:=by
  unfold crB solB;rw [hs,z0,z1,z2,det_d0,det_d1,det_d2];exact mkB_00 hD hok'
 have hI:∀ x,crI rs 0 1 2 x=mkI 0 0 0 (det9 (nth rs 0) (nth rs 1) (nth rs 2) (nth rs 4) (nth rs 5) (nth rs 6) (nth rs 8) (nth rs 9) (nth rs 10)) x:=fun x=>by
  unfold crI solI;rw [hs,z0,z1,z2,det_d0,det_d1,det_d2]
 refine cornN_pos hB (i:=0) (k:=1) (m:=2) (by omega) (by omega) (by omega) hb ?_;have e1:crH rs 0 1 2=0:=by unfold crH; rw [hI,z0,z1,z2,det_d0,mkI_0]
 have e2:crV rs 0 1 2=0:=by unfold crV; rw [hI,z0,z1,z2,det_d1,mkI_0]
 have e3:crM rs 0 1 2=0:=by unfold crM; rw [hI,z0,z1,z2,det_d2,mkI_0]
 have e4:crD rs 0 1 2=1:=by unfold crD; rw [hI,hs,mkI_D hD hok']
 unfold crAll;rw [e1,e2,e3,e4];refine allB_t fun i hi => ?_
 unfold metAt metB;rw [hz i hi];simp
def allN:Nat→List Int
 | 0 => []
 | k+1=>allN k ++ [(k:Int)]
theorem allN_len:∀ k,(allN k).length=k
 | 0=>rfl
 | k+1=>by simp [allN,allN_len k]
theorem allN_at:∀ {k i:Nat},i<k→nth (allN k) i=(i:Int)
 | 0,i,h=>by omega
 | k+1,i,h=>by
  have hl:=allN_len k;rw [nth_get _ i (by rw [allN_len]; exact h)];by_cases e:i=k
  ·subst e
   simp [allN,hl]
  ·have hi:i<(allN k).length:=by omega
   have h2:=allN_at (k:=k) (i:=i) (by omega);rw [nth_get _ i hi] at h2;simp only [allN];rw [List.getElem_append_left hi];exact h2
theorem asc_all {n:Nat} (hn:3≤n):ascB (allN (n - 1)) (n - 1) 0 ((n:Int) - 2)=true:=by
 simp only [ascB,List.all_eq_true,List.mem_range];intro i hi;simp only [ascAt,Bool.and_eq_true,Bool.or_eq_true,decide_eq_true_eq,inB_iff,allN_at hi];refine ⟨by omega,?_⟩;rcases Nat.eq_zero_or_pos i with e | e
 ·exact .inl e
 ·right
  rw [allN_at (by omega)];omega
theorem isC_all {k j:Nat} (h:j<k):isC (allN k) k j=true:=(isC_iff _ _ _).2 ⟨j,h,allN_at h⟩
theorem carried_all {zs:List Int} {n:Nat} (hA:archB zs n=true):carriedB zs n (allN (n - 1)) (n - 1)=true:=by
 have:=(archB_out hA).1;rw [carriedB_3 (asc_all (by omega))];exact hA
theorem sum_all (zs:List Int) {n:Nat}:∀ k,k<n→sumW (stgL zs (allN (n - 1)) (n - 1) (n - 1)) k=0∧sumM (stgL zs (allN (n - 1)) (n - 1) (n - 1)) k=0
 | 0,_=>⟨rfl,rfl⟩
 | k+1,h=>by
  have ih:=sum_all zs (n:=n) k (by omega);have hk:k<n - 1:=by omega
  simp only [sumW,sumM];rw [(stgL_nth zs _ _ hk).1,(stgL_nth zs _ _ hk).2];simp only [stgW,stgM,isC_all hk,if_true];omega
theorem stgR_all {zs:List Int} {n:Nat} (hA:archB zs n=true):stgR zs n (allN (n - 1)) (n - 1)=rowsL zs (fun _=>0) (fun _=>0) n:=by
 rw [(stg_t (carried_all hA)).2];exact rowsL_congr fun k hk=>sum_all zs k hk
theorem rows0_d {zs:List Int} {n:Nat}:∀ i,i<n*2+1→nth (rowsL zs (fun _=>0) (fun _=>0) n) (i*4+3)=0:=by
 intro i hi;have hl:=rowTo_len zs (fun _=>0) (fun _=>0) n;unfold rowsL;by_cases h:i<n*2
 ·rw [nthA_l (by omega)]
  rcases Nat.mod_two_eq_zero_or_one i with e | e
  ·have e2:i*4+3=i / 2*8+3:=by omega
   rw [e2,rowTo_nth zs _ _ (by omega) (by omega)];simp [rowJ,nth]
  ·have e2:i*4+3=i / 2*8+7:=by omega
   rw [e2,rowTo_nth zs _ _ (by omega) (by omega)];simp [rowJ,nth]
 ·rw [nthA_r 3 (by omega)]
  rfl
theorem wmok_0 (n:Nat):WMok (fun _=>0) (fun _=>0) n:=fun k _=>by constructor <;> constructor <;> simp
theorem side_det (px py qx qy rx ry:Int):det9 py (-px) 1 (-qy) qx (-1) ry (-rx) 1=sideI qx qy px py rx ry:=by
 unfold det9 sideI;grind
theorem stands_all {zs:List Int} {n:Nat} (hA:archB zs n=true):stgB zs n (allN (n - 1)) (n - 1)=true:=by
 have h0:=archB_out hA;have hn:=h0.1;unfold stgB;rw [stgR_all hA,(stg_t (carried_all hA)).1];refine decide_eq_true ?_;have hrow:∀ k j,k<n→j<8→nth (rowsL zs (fun _=>0) (fun _=>0) n) (k*8+j)=nth (rowJ zs (fun _=>0) (fun _=>0) k) j:=fun k j hk hj=>by
  have hl:=rowTo_len zs (fun _=>0) (fun _=>0) n;unfold rowsL;rw [nthA_l (by omega),rowTo_nth zs _ _ hk hj]
 refine cornN_zero (cornB_t (rowsL_ok hA (wmok_0 n)) (by rw [inB_iff]; omega)) rows0_d (by omega) ?_
 have q0:=hrow 0 0 (by omega) (by omega);have q1:=hrow 0 1 (by omega) (by omega);have q2:=hrow 0 2 (by omega) (by omega);have q4:=hrow 0 4 (by omega) (by omega);have q5:=hrow 0 5 (by omega) (by omega);have q6:=hrow 0 6 (by omega) (by omega);have q8:=hrow 1 0 (by omega) (by omega);have q9:=hrow 1 1 (by omega) (by omega);have q10:=hrow 1 2 (by omega) (by omega);simp only [Nat.zero_mul,Nat.zero_add,Nat.one_mul,Nat.add_zero,Nat.reduceAdd] at q0 q1 q2 q4 q5 q6 q8 q9 q10;rw [q0,q1,q2,q4,q5,q6,q8,q9,q10];simp only [rowJ,nth,List.getD_cons_zero,List.getD_cons_succ];have hp:=h0.2 0 (by omega);simp only [pairB,Bool.and_eq_true] at hp;have ht:=(stoneB_out hp.1).2.2 3 (by omega);simp only [turnB,Bool.and_eq_true,decide_eq_true_eq] at ht;have ht1:=ht.1;intro he;rw [side_det] at he;simp [sd,btwA,btw,nth] at ht1;simp at he;omega
theorem asc_none (lo hi:Int):ascB [] 0 lo hi=true:=by simp [ascB]
theorem carried_none (zs:List Int) (n:Nat):carriedB zs n [] 0=archB zs n:=carriedB_3 (asc_none _ _)
theorem loads_none (zs:List Int) (n:Nat):loadsB zs n [] 0=archB zs n:=by simp [loadsB,allB]
theorem left_stg (zs:List Int) {n:Nat}:∀ k,k<n→sumW (stgL zs [] 0 (n - 1)) k=leftW zs [] 0 k∧sumM (stgL zs [] 0 (n - 1)) k=leftM zs [] 0 k
 | 0,_=>⟨rfl,rfl⟩
 | k+1,h=>by
  have ih:=left_stg zs (n:=n) k (by omega);have hk:k<n - 1:=by omega
  simp only [sumW,sumM,leftW,leftM];rw [(stgL_nth zs _ _ hk).1,(stgL_nth zs _ _ hk).2,ih.1,ih.2,kwTo_0,kmTo_0];simp [stgW,stgM,isC]
theorem rows_stg (zs:List Int) (n:Nat):rowsN zs n [] 0=stgN zs n [] 0∧rowsZ zs n [] 0=stgR zs n [] 0:=by
 cases hA:archB zs n
 ·have h1:=rows_f (ls := []) (q:=0) ((loads_none zs n).trans hA)
  have h2:=stg_f (cs := []) (q:=0) ((carried_none zs n).trans hA);rw [h1.1,h1.2,h2.1,h2.2];exact ⟨rfl,rfl⟩
 ·have h1:=rows_t (ls := []) (q:=0) ((loads_none zs n).trans hA)
  have h2:=stg_t (cs := []) (q:=0) ((carried_none zs n).trans hA);rw [h1.1,h1.2,h2.1,h2.2];exact ⟨rfl,(rowsL_congr fun k hk=>left_stg zs k hk).symm⟩
theorem stands_none (zs:List Int) (n:Nat):decide (0<((cornN (rowsZ zs n [] 0) (rowsN zs n [] 0):Nat):Int))=stgB zs n [] 0:=by
 rw [(rows_stg zs n).1,(rows_stg zs n).2];unfold stgB;exact decide_eq_decide.2 (by omega)
theorem cntS_one {f:Nat→Bool} (h:f 0=true):∀ s,1≤cntS f (s+1)
 | 0=>by simp [cntS,h]
 | s+1=>by
  have ih:=cntS_one h s;unfold cntS;split <;> omega
theorem full_bit {m j:Nat} (hj:j<m):(p2 m - 1) / p2 j % 2=1:=by
 obtain ⟨d,rfl⟩:∃ d,m=j+1+d:=⟨m - (j+1),by omega⟩;have hp:=p2_pos j;have hd:=p2_pos d;have e:p2 (j+1+d)=p2 j*(2*p2 d):=by simp [p2,Nat.pow_add,Nat.pow_one,Nat.mul_assoc]
 have e2:p2 (j+1+d) - 1=p2 j*(2*p2 d - 1)+(p2 j - 1):=by
  rw [e,Nat.mul_sub,Nat.mul_one];have:p2 j*1≤p2 j*(2*p2 d):=Nat.mul_le_mul_left _ (by omega);omega
 rw [e2,Nat.mul_add_div hp,Nat.div_eq_of_lt (by omega)];omega
theorem setL_full (m:Nat):∀ k,k≤m→setL (p2 m - 1) k=allN k
 | 0,_=>rfl
 | k+1,h=>by
  rw [setL_yes (full_bit (by omega)),setL_full m k (by omega)];rfl
theorem setL_zero:∀ k,setL 0 k = []
 | 0=>rfl
 | k+1=>by rw [setL_no (by simp)]; exact setL_zero k
theorem setB_0 (zs:List Int) (n:Nat):setB zs n 0=stgB zs n [] 0:=by unfold setB; rw [setL_zero]; rfl
theorem setB_full {zs:List Int} {n:Nat} (hA:archB zs n=true):setB zs n (p2 (cstN zs n) - 1)=true:=by
 unfold setB;rw [setL_full _ _ (Nat.le_refl _),allN_len,cstN_t hA];exact stands_all hA
theorem stages_bd {zs:List Int} {n:Nat} (hA:archB zs n=true):1+(if stgB zs n [] 0=true then 1 else 0)≤stagesN zs n∧stagesN zs n≤p2 (cstN zs n):=by
 rw [stagesN_t hA];refine ⟨?_,cntS_le _ _⟩;have h2:=cstN_pos hA;obtain ⟨S,hS⟩:∃ S,p2 (cstN zs n)=S+2:=⟨p2 (cstN zs n) - 2,by
  have:=p2_add 2 (cstN zs n - 2);have e:2+(cstN zs n - 2)=cstN zs n:=by omega
  rw [e] at this;have e4:p2 2=4:=by decide
  omega⟩
 have hf:=setB_full hA;rw [hS] at hf ⊢;have hf':setB zs n (S+1)=true:=hf;rw [cntS_yes hf'];split
 ·rename_i hb
  have:=cntS_one (f:=setB zs n) (by rw [setB_0]; exact hb) S;omega
 ·omega
end X
namespace X
open Go.RowKit
structure CtL (w wr:World) (X b m d:Nat) (Z:List Int):Prop where
 box:Box wr X (.slice (some ⟨b,0,none⟩) m d)
 recs:RecsAt wr (X+1) 4 (some ⟨b,0,none⟩) m Z
 below:Below w.heap.size w wr
 far:w.heap.size≤X
theorem CtL.low {w wr w':World} {X b m d:Nat} {Z:List Int} (h:CtL w wr X b m d Z) (hb:Below (X+1) wr w'):CtL w w' X b m d Z :=
 ⟨⟨(hb.cell (p:=⟨X,0,none⟩) (by simp)).trans h.box.1,Nat.lt_of_lt_of_le h.box.2 hb.size⟩,h.recs.below hb,h.below.trans (hb.mono (by have:=h.far; omega)),h.far⟩
theorem CtL.after {w wr w':World} {X b m d:Nat} {Z:List Int} (h:CtL w wr X b m d Z) (hb:Below wr.heap.size wr w'):CtL w w' X b m d Z:=h.low (hb.mono h.box.2)
theorem CtL.now {w wr:World} {X b m d:Nat} {Z:List Int} (h:CtL w wr X b m d Z):RecsAt wr wr.heap.size 4 (some ⟨b,0,none⟩) m Z:=h.recs.mono h.box.2
theorem ints_none (w:World) (B:Nat):IntsAt w B none 0 []:=⟨rfl,fun h=>absurd h (by omega)⟩
theorem recs_none3 (w:World) (B:Nat):RecsAt w B 3 none 0 []:=⟨rfl,fun h=>absurd h (by omega)⟩
namespace fnCentring
set_option maxRecDepth 100000 in
set_option maxHeartbeats 12800000 in
theorem walk (A:Option Addr) (n c:Nat) (zs:List Int) (w:World) (h:BytesAt w w.heap.size A n zs) :
  Calls Tryzx.prog 8 #[.slice A n c] w fun e w'=>e = .returned (.bool true)∧Below w.heap.size w w':=by
 by_cases hbig:(1048576:Int)<(n:Int)
 ·have HB:=Lib.hid (show decide ((1048576:Int)<(n:Int))=true by simp [hbig])
  clear h;go_enter Tryzx.func8,Tryz.ntmps8;go_wp2_with fail
  refine (big_any _ _ _ _).mono ?_;rw [HB.out];rintro e w1 ⟨rfl,rfl⟩;go_wp2;go_ret;exact ⟨rfl,Below.refl _ _⟩
 ·have hn:n≤1048576:=by omega
  have HB:=Lib.hid (show decide ((1048576:Int)<(n:Int))=false by simp [hbig]);have HBY:=Lib.hid h;clear hbig h;go_enter Tryzx.func8,Tryz.ntmps8;go_wp2_with fail
  refine (big_any _ _ _ _).mono ?_;rw [HB.out];rintro e w1 ⟨rfl,rfl⟩;go_wp2_with fail
  refine (drawSmall_any A n c zs _ HBY.out hn).mono ?_;rintro e w2 ⟨b,m,d,Z,rfl,hb,hmd,hr,hl,ho,hb2⟩;have hm:=(archB_out ho).1;have hbl:b<w2.heap.size:=hr.lt;have ba:Below w2.heap.size w2 (w2.alloc (.cells #[.slice (some ⟨b,0,none⟩) m d] 26)):=(Below.refl _ _).alloc (Nat.le_refl _) _;have HC3:Hid (CtL w (w2.alloc (.cells #[.slice (some ⟨b,0,none⟩) m d] 26)) w2.heap.size b m d Z):=Lib.hid ⟨Box.new _ _ _,((RowF.recs hr hl).below ba).mono (by omega),hb2.trans (ba.mono hb2.size),hb2.size⟩;have hcst:cstN Z m=m - 1:=cstN_t ho;obtain ⟨N,hN⟩:∃ N,m - 1=N:=⟨_,rfl⟩;rw [hN] at hcst;have HCST:=Lib.hid hcst;have HALL:Hid (carriedB Z m (allN N) N=true∧stgB Z m (allN N) N=true):=Lib.hid (by rw [← hN]; exact ⟨carried_all ho,stands_all ho⟩);have HBD:=Lib.hid (stages_bd ho);have HROWS:=Lib.hid (rows_stg Z m);have HSTD:Hid (decide (0<(thrN Z m [] 0:Int))=stgB Z m [] 0):=Lib.hid (stands_none Z m);have hrf:=stgN_few Z m [] 0;have cx3:=HC3.out.box.1;obtain ⟨X,hX⟩:∃ X,w2.heap.size=X:=⟨_,rfl⟩;rw [hX] at HC3 cx3 ba;clear hr hl ho hb2 ba hbl hcst HBY HB;go_wp2_with fail
  refine (sCst_any _ _ _ Z _ (by exact HC3.out.now) (by omega)).mono ?_;rw [HCST.out];rintro e w4 ⟨rfl,hb4⟩;have HC4:=Lib.hid (HC3.out.after hb4);have bb:Below w4.heap.size w4 (w4.alloc (.cells #[] 3)):=(Below.refl _ _).alloc (Nat.le_refl _) _;have HC5:=Lib.hid (HC4.out.after bb);have HO5:Hid (OwnV (w4.alloc (.cells #[] 3)) (X+1) 3 (.slice (some ⟨w4.heap.size,0,none⟩) 0 0) []):=Lib.hid ((OwnI.new w4 3).toV.weakenN HC4.out.box.2);clear hb4 bb HC3 HC4 cx3;go_wp2;go_loopw [5,6] (fun v5 v6 wr=>∃ k:Nat,v6 = .int .i64 k∧k≤N∧Hid (OwnV wr (X+1) 3 v5 (allN k))∧Hid (CtL w wr X b m d Z)) (fun _ v6 _=>N - (intOf v6).toNat)
  case atStart=>exact ⟨0,rfl,Nat.zero_le _,HO5,HC5⟩
  case round =>
   clear HO5 HC5;obtain ⟨k,rfl,hk,HO,HC⟩:=hrel;have hlen:=allN_len k;by_cases hlt:k<N
   ·have i1:IntKind.i64.wrap ((k:Int)+1)=(k:Int)+1:=IntWalk.i64_in _ (by omega)
    have ik:(k:Int)<(N:Int):=by omega
    have hz:=HC.out.box.2;go_wp2_with (at_builtin; refine wpList_append_int _ rfl (.tmp 24) (.tmp 26) 54 rfl (X+1) 3 Tryzx.underlying54 infoInt _ (allN k) rfl (by exact HO.out.alloc _) _ _ (k:Int) rfl (by exact cell_new1 _ _ _) (by omega) (by simp; omega) ?_; intro g' cap' w6 hown6 hgr6);have HC6:=Lib.hid (HC.out.low (ownB_below (Below.refl (X+1) wr) HC.out.box.2 HO.out (Nat.le_refl _) hgr6));have hv6:=hown6.toV;rw [List.length_append,hlen,show allN k ++ [(k:Int)]=allN (k+1) from rfl] at hv6;have HV6:=Lib.hid hv6;clear hown6 hgr6 hv6;go_wp2;go_roundw
    case rel=>exact ⟨k+1,by go_num,by omega,HV6,HC6⟩
    case measure=>simp [intOf]; omega
   ·obtain rfl:N=k:=by omega
    have ik:¬ (N:Int)<(N:Int):=by omega
    obtain ⟨A5,q5,d5,rfl⟩:=HO.out.sliceN;have hq5:=HO.out.len;rw [hlen] at hq5;have hq5':=hq5.symm;subst hq5';have cx:=HC.out.box.1;go_wp2_with fail
    refine (iStages_any _ _ _ Z _ (by exact HC.out.now) (by omega)).mono ?_;rintro e w7 ⟨rfl,hb7⟩;have HC7:=Lib.hid (HC.out.after hb7);have HO7:=Lib.hid (HO.out.afterN hb7);clear hb7 HC HO cx;have cx:=HC7.out.box.1;go_wp2_with fail
    refine (iFree_any _ _ _ Z _ (by exact HC7.out.now) (by omega)).mono ?_;rintro e w8 ⟨rfl,hb8⟩;have HC8:=Lib.hid (HC7.out.after hb8);have HO8:=Lib.hid (HO7.out.afterN hb8);clear hb8 HC7 HO7 cx;have cx:=HC8.out.box.1;go_wp2_with fail
    refine (iStageRowsN_any _ _ _ Z _ _ _ [] _ (by exact HC8.out.now) (by omega) (by exact ints_none _ _) (by omega)).mono ?_;rintro e w9 ⟨⟨v9,rfl,ho9,hb9⟩,hnil⟩;clear hnil;have HC9:=Lib.hid (HC8.out.after hb9);have HO9:=Lib.hid (HO8.out.afterN hb9);obtain ⟨A9,d9,rfl,_⟩:=ho9.slice;have HR9:=Lib.hid ho9.recs;clear hb9 ho9 HC8 HO8 cx;have cx:=HC9.out.box.1;go_wp2_with fail
    refine (sRowsOf_any _ _ _ Z _ _ _ [] _ (by exact HC9.out.now) (by omega) (by exact recs_none3 _ _) (by omega)).mono ?_;rw [HROWS.out.1,HROWS.out.2];rintro e wa ⟨va,rfl,hoa,hba⟩;have HCa:=Lib.hid (HC9.out.after hba);have HOa:=Lib.hid (HO9.out.afterN hba);have HR9a:=Lib.hid (HR9.out.after hba);obtain ⟨Aa,da,rfl,_⟩:=hoa.slice;have HRa:=Lib.hid hoa.recs;clear hba hoa HC9 HO9 cx HR9;obtain ⟨R,hR⟩:∃ R,stgN Z m [] 0=R:=⟨_,rfl⟩;rw [hR] at HR9a HRa hrf;rw [hR];generalize stgR Z m [] 0=RL at *
    have hne:((R:Int) != (R:Int))=false:=by simp
    go_wp2;go_loopw [11] (fun v11 wr=>∃ k:Nat,v11 = .int .i64 k∧k≤R∧Hid (Below wa.heap.size wa wr)) (fun v11 _=>R - (intOf v11).toNat)
    case atStart=>exact ⟨0,rfl,Nat.zero_le _,Lib.hid (Below.refl _ _)⟩
    case round =>
     obtain ⟨k,rfl,hk2,HB⟩:=hrel;by_cases hlt2:k<R
     ·have i1:IntKind.i64.wrap ((k:Int)+1)=(k:Int)+1:=IntWalk.i64_in _ (by omega)
      have ik:(k:Int)<(R:Int):=by omega
      have k0:(0:Int)≤(k:Int):=by omega
      have hx:=HR9a.out.after HB.out;have hy:=HRa.out.after HB.out;obtain ⟨b1,o1,rfl,_,hc1⟩:=hx.2 (by omega);obtain ⟨b2,o2,rfl,_,hc2⟩:=hy.2 (by omega);have j1:=jtCells hc1 hlt2;have j2:=jtCells hc2 hlt2;obtain ⟨p0,p1,p2,p3⟩:=j1;obtain ⟨q0,q1,q2,q3⟩:=j2;generalize nth RL (k*4)=x0 at *
      generalize nth RL (k*4+1)=x1 at *
      generalize nth RL (k*4+2)=x2 at *
      generalize nth RL (k*4+3)=x3 at *
      clear hc1 hc2 hx hy;have hst:=Tryzx.stoodInHeld65;go_wp2;go_region
      go_wp2;go_roundw
      case rel=>exact ⟨k+1,by go_num,by omega,Lib.hid (below_dr HB.out)⟩
      case measure=>simp [intOf]; omega
     ·obtain rfl:R=k:=by omega
      have ik:¬ (R:Int)<(R:Int):=by omega
      have HCr:=Lib.hid (HCa.out.after HB.out);have HOr:=Lib.hid (HOa.out.afterN HB.out);have cx:=HCr.out.box.1;have li:=HOr.out.intsAt;clear HCa HOa HR9a HRa hne HB;go_wp2_with fail
      refine (iCarriedOk_any _ _ _ Z _ _ _ (allN N) _ (by exact HCr.out.now) (by omega) (by exact li) (by omega)).mono ?_;rw [HALL.out.1];rintro e wb ⟨rfl,hbb⟩;have HCb:=Lib.hid (HCr.out.after hbb);have HOb:=Lib.hid (HOr.out.afterN hbb);clear hbb HCr HOr li cx;have cx:=HCb.out.box.1;have li:=HOb.out.intsAt;go_wp2_with fail
      refine (iStageStands_any _ _ _ Z _ _ _ (allN N) _ (by exact HCb.out.now) (by omega) (by exact li) (by omega)).mono ?_;rw [HALL.out.2];rintro e wc ⟨rfl,hbc⟩;have HCc:=Lib.hid (HCb.out.after hbc);clear hbc HCb HOb li cx;have cx:=HCc.out.box.1;go_wp2_with fail
      refine (sStd_any _ _ _ Z _ _ _ [] _ (by exact HCc.out.now) (by omega) (by exact recs_none3 _ _) (by omega)).mono ?_;rw [HSTD.out];rintro e wd ⟨rfl,hbd⟩;have HCd:=Lib.hid (HCc.out.after hbd);clear hbd HCc cx;have cx:=HCd.out.box.1;have hbn:=HBD.out;rw [HCST.out] at hbn;have hp7:=p2_7 (n:=N) (by omega);have hsh:=wrap_p2 N (by omega);obtain ⟨S,hS⟩:∃ S,stagesN Z m=S:=⟨_,rfl⟩;rw [hS] at hbn;rw [hS];obtain ⟨y,hy⟩:∃ y,stgB Z m [] 0=y:=⟨_,rfl⟩;have HY:=Lib.hid hy;rw [hy] at hbn;rw [hy];clear hy hS;have hge:(S:Int) ≥ 1+(if y=true then 1 else 0):=by cases y <;> simp at hbn ⊢ <;> omega
      have hle:(S:Int)≤((p2 N:Nat):Int):=Int.ofNat_le.2 hbn.2;cases y;all_goals
       simp only [Bool.false_eq_true,if_false,if_true] at hge;go_wp2_with fail
       refine (btoi_any _ _).mono ?_;rintro e we ⟨rfl,rfl⟩;go_wp2_with fail
       refine (iStageStands_any _ _ _ Z _ _ _ [] _ (by exact HCd.out.now) (by omega) (by exact ints_none _ _) (by omega)).mono ?_;rw [HY.out];rintro e wf ⟨rfl,hbf⟩;have HCf:=Lib.hid (HCd.out.after hbf);clear hbf;go_wp2;go_ret;exact ⟨by simp,HCf.out.below⟩
end fnCentring
end X
end Go.Proofs.YtbpnbhemdbgmjaaGreat
