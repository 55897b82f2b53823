/-
  Texts that the law stands on, part 20.
-/
import Derived.Test.YtpblihmhpalkfaaGreatJ1
import Derived.Test.YtpblihmhpalkfaaGreatJ11
import Derived.Test.YtpblihmhpalkfaaGreatJ15
import Derived.Test.YtpblihmhpalkfaaGreatJ16
import Derived.Test.YtpblihmhpalkfaaGreatJ17
import Derived.Test.YtpblihmhpalkfaaGreatJ19
import Derived.Test.YtpblihmhpalkfaaGreatJ10
import Derived.WalkKit
import Derived.Outline
import Derived.Laws.BitsAllLaws
import Derived.Laws.BitsLemmas
import Derived.IntWalk
import Derived.BigQuiet
import Derived.Deep.RegionHeld3
import Derived.BigRegion
import Derived.Deep.DeepCutAuto
import Derived.Deep.RegionLaw
set_option maxRecDepth 100000
set_option linter.unusedVariables false
set_option linter.unusedSimpArgs false
namespace Go.Proofs.YtpblihmhpalkfaaGreat
namespace Rn
open Go.Conc Go.WideShapes
section
variable {noT : TypeId} {ws : List Win} {v : World} {B n i : Nat} {A : Option Addr} {zs : List Int}
theorem winOf_okB (hat:AtCells v A) (h:BytesAt v B A n zs):WinOk noT ws v (winOf .u8 A n zs):=by
 cases A with
 | none=>intro hl; cases hl
 | some a =>
  intro _;obtain ⟨hs,c,t,z,hh⟩:=hat a rfl;refine ⟨c,t,z,hh,fun k u hu => ?_⟩;have hk:k<n:=by
   have:=(Array.getElem?_eq_some_iff.1 hu).1;simpa [winOf] using this
  have hu':u = .int .u8 (nth zs k):=by
   simp [winOf,hk] at hu;exact hu.symm
  subst hu';obtain ⟨b,off,e,_,hc⟩:=h.2 (by omega);cases e;have:=hc k hk;simp only [World.cell?,hh,Option.isSome_none,Bool.false_eq_true,if_false] at this;exact ⟨_,by rw [Nat.add_comm]; exact this,.int _ _⟩
theorem lone_bytes (h:BytesAt v B A n zs) (hi:ws[i]?=some (winOf .u8 A n zs)) (t:Tp) (d:Nat):BytesAt ((lworld noT ws v).tp t d) ((lworld noT ws v).tp t d).heap.size (lA A i) n zs:=by
 refine ⟨h.1,fun hn => ?_⟩;obtain ⟨b,off,rfl,_,_⟩:=h.2 hn;refine ⟨Tryz.prog.globals.size+i,0,rfl,?_,fun k hk => ?_⟩
 ·show _<(lworld noT ws v).heap.size
  rw [l_size];have:=(List.getElem?_eq_some_iff.1 hi).1;omega
 ·show (match (lworld noT ws v).heap[Tryz.prog.globals.size+i]? with | some (.cells c _ _)=>c[0+k]? | _=>none)=_
  rw [l_at hi];simp [winOf,hk]
end
end Rn
namespace X
open Go.ChangeShapes Go.WideShapes Go.ChangeAt Go.RowKit
def BytesAt (w:World) (B:Nat) (A:Option Addr) (n:Nat) (zs:List Int):Prop :=
 (zs.length=n∧∀ k,0≤nth zs k∧nth zs k≤255)∧(0<n→∃ b off,A=some ⟨b,off,none⟩∧b<B∧∀ k,k<n→w.cell? ⟨b,off+k,none⟩=some (.int .u8 (nth zs k)))
section
variable {w w' : World} {B B' n : Nat} {A : Option Addr} {zs : List Int}
theorem BytesAt.mono (h:BytesAt w B A n zs) (hB:B≤B'):BytesAt w B' A n zs :=
 ⟨h.1,fun hn=>by
  obtain ⟨b,off,e,hb,hc⟩:=h.2 hn;exact ⟨b,off,e,by omega,hc⟩⟩
theorem BytesAt.below (h:BytesAt w B A n zs) (hb:Below B w w'):BytesAt w' B A n zs :=
 ⟨h.1,fun hn=>by
  obtain ⟨b,off,e,hb',hc⟩:=h.2 hn;exact ⟨b,off,e,hb',fun k hk'=>(hb.cell (p:=⟨b,off+k,none⟩) hb').trans (hc k hk')⟩⟩
theorem BytesAt.after (h:BytesAt w w.heap.size A n zs) (hb:Below w.heap.size w w'):BytesAt w' w'.heap.size A n zs:=(h.below hb).mono hb.size
theorem u8_bounds {n:Int} (h:(Lit.int .u8 n).wf=true):0≤n∧n≤255:=by
 simp [Lit.wf,IntKind.min,IntKind.max,IntKind.signed,IntKind.bits] at h;omega
end
theorem open_bytes_arg {H:Type} {enc:TypeId × Value→H} {P:Program} {W:World} {base:Nat} {t e:TypeId} {v:Value} {d:DataW H} {p:List MemPlace} (ht:P.underlying t=some (.slice e)) (he:P.underlying e=some (.int .u8)) (hc:P.cellsOf e=1)
  (hv:Value.okWide P W .any base t v) (h:DataW.Trod enc P W 0 (fun _=>true) true t v d p) (hlt:∀ x ∈ p,x.block<W.heap.size) :
  ∃ (A:Option Addr) (n c:Nat) (zs:List Int),v = .slice A n c∧BytesAt W W.heap.size A n zs∧n≤maxLen∧n≤c:=by
 obtain ⟨A,n,c,rfl⟩:=okWide_slice ht hv;obtain ⟨fuel,hf⟩:=h;rcases open_ints ht he hc hf with ⟨h0,_⟩ | ⟨a,len,cap,ys,h1,_,hl,hm,hy,hx,hcell,hwf⟩
 ·simp [Value.cells] at h0
  obtain ⟨rfl,rfl,rfl⟩:=h0;exact ⟨_,_,_,[],rfl,⟨⟨rfl,fun k=>by simp [nth]⟩,fun h=>absurd h (by omega)⟩,by simp [maxLen],Nat.le_refl _⟩
 ·simp [Value.cells] at h1
  obtain ⟨rfl,rfl,rfl⟩:=h1;simp only [if_true] at hy;have hw:∀ k,0≤nth (ys.take n) k∧nth (ys.take n) k≤255:=by
   intro k;by_cases hk:k<(ys.take n).length
   ·rw [nth_get _ _ hk]
    exact u8_bounds (hwf _ (List.mem_of_mem_take (List.getElem_mem hk)))
   ·simp [nth,List.getD,List.getElem?_eq_none (Nat.le_of_not_lt hk)]
  refine ⟨_,_,_,ys.take n,rfl,⟨⟨by simp; omega,hw⟩,fun hn => ?_⟩,by omega,hl⟩
  obtain ⟨b,off,rfl,hc'⟩:=ints_at hcell (by omega);refine ⟨b,off,rfl,?_,fun k hk => ?_⟩
  ·have hpx:p=MemPlace.row ⟨b,off,none⟩ ys.length:=by simpa using congrArg Prod.snd hx
   have:MemPlace.cell b off ∈ p:=by
    rw [hpx];simp [MemPlace.row];omega
   exact hlt _ this
  ·rw [hc' k (by omega)]
   have:nth (ys.take n) k=ys.getD k 0:=by
    simp [nth,List.getD,hk]
   rw [this]
end X
section
open Go.RowKit
theorem Only.drewN {g:Nat} {w w':World} (h:Only g w w') (k:Nat):Only g w (w'.drewN k):=⟨h.os,h.tape,h.output,h.size,h.block⟩
end
namespace X
open Go.RowKit
theorem and_low (a:Int) (m:Nat) (hm:m<9223372036854775808):0≤bits .and .i64 a (m:Int)∧bits .and .i64 a (m:Int)≤(m:Int):=by
 show 0≤IntKind.i64.wrap ((BitVec.ofInt 64 a &&& BitVec.ofInt 64 (m:Int)).toNat:Int)∧IntKind.i64.wrap ((BitVec.ofInt 64 a &&& BitVec.ofInt 64 (m:Int)).toNat:Int)≤(m:Int)
 have e:(BitVec.ofInt 64 (m:Int)).toNat=m:=by
  rw [BitVec.ofInt_natCast,BitVec.toNat_ofNat]; exact Nat.mod_eq_of_lt (by omega)
 rw [BitVec.toNat_and,e];have h:=Nat.and_le_right (n:=(BitVec.ofInt 64 a).toNat) (m:=m);rw [IntWalk.i64_in _ (by omega)];omega
def Cur (w:World) (g:Nat) (A:Option Addr) (n c i:Nat) (h:Int):Prop:=RowF w g 105 3 (fun j=>match j with | 0 => .slice A n c | 1 => .int .i64 (i:Int) | _ => .int .i64 h)
theorem Cur.after {w w':World} {g:Nat} {A:Option Addr} {n c i:Nat} {h:Int} (hc:Cur w g A n c i h) (hb:Below w.heap.size w w'):Cur w' g A n c i h:=RowF.after hc hb
def CurAt (w:World) (g:Nat) (A:Option Addr) (n c:Nat):Prop:=∃ (i:Nat) (h:Int),i≤n∧Cur w g A n c i h
theorem CurAt.after {w w':World} {g:Nat} {A:Option Addr} {n c:Nat} (hc:CurAt w g A n c) (hb:Below w.heap.size w w'):CurAt w' g A n c:=by
 obtain ⟨i,h,hi,hc⟩:=hc;exact ⟨i,h,hi,hc.after hb⟩
set_option maxRecDepth 100000 in
set_option maxHeartbeats 1600000 in
theorem l01New_any (A:Option Addr) (n c:Nat) (zs:List Int) (w:World) (h:BytesAt w w.heap.size A n zs) (hn:n≤1048576) :
  Calls Tryzx.prog 43 #[.slice A n c] w fun e w'=>∃ g,e = .returned (.pointer (some ⟨g,0,none⟩))∧w.heap.size≤g∧CurAt w' g A n c∧Below w.heap.size w w':=by
 have H:=Lib.hid h;clear h;go_enter Tryzx.func43,Tryz.ntmps43;go_wp2;go_loop [3,4] (fun m i=>∃ (k:Nat) (x:Int),k≤n∧i = .int .i64 k∧m = .int .i64 x) (fun _ i=>n - (intOf i).toNat)
 case atStart=>exact ⟨0,_,Nat.zero_le _,rfl,rfl⟩
 case round =>
  obtain ⟨k,x,hk,rfl,rfl⟩:=hrel;by_cases hlt:k<n∧k<4000
  ·obtain ⟨b,off,rfl,hbB,hc⟩:=H.out.2 (by omega)
   have hx:=hc k hlt.1;have ki:(k:Int)<(n:Int):=by omega
   have k0:(0:Int)≤(k:Int):=by omega
   have k4:(k:Int)<4000:=by omega
   clear hc;go_wp2;go_round
   case rel=>exact ⟨k+1,_,by omega,by go_num,rfl⟩
   case measure=>simp [intOf]; omega
  ·have HB:=Lib.hid ((Below.refl w.heap.size w).alloc (Nat.le_refl _) (.cells #[.slice A n c,.int .i64 0,.int .i64 x] 105))
   have HC:Hid (Cur (w.alloc (.cells #[.slice A n c,.int .i64 0,.int .i64 x] 105)) w.heap.size A n c 0 x):=RowF.of_row (World.rowIs_alloc w #[.slice A n c,.int .i64 0,.int .i64 x] 105 _ (fun j hj=>by simp at hj; match j,hj with | 0,_=>rfl | 1,_=>rfl | 2,_=>rfl))
   by_cases h1:k<n
   ·have k1:(k:Int)<(n:Int):=by omega
    have k4:¬ (k:Int)<4000:=by omega
    go_wp2;go_ret;exact ⟨_,rfl,Nat.le_refl _,⟨0,x,Nat.zero_le _,HC.out⟩,HB.out⟩
   ·have k1:¬ (k:Int)<(n:Int):=by omega
    go_wp2;go_ret;exact ⟨_,rfl,Nat.le_refl _,⟨0,x,Nat.zero_le _,HC.out⟩,HB.out⟩
def DrawPost (w:World) (g:Nat) (A:Option Addr) (n c:Nat) (m:Int) (e:Ending) (w':World):Prop:=∃ r:Int,e = .returned (.int .i64 r)∧0≤r∧r<m∧CurAt w' g A n c∧Only g w w'
set_option maxRecDepth 100000 in
set_option maxHeartbeats 3200000 in
theorem l01Byte_any (g:Nat) (A:Option Addr) (n c:Nat) (zs:List Int) (w:World) (h:BytesAt w g A n zs) (hn:n≤1048576) (hc:CurAt w g A n c) :
  Calls Tryzx.prog 146 #[.pointer (some ⟨g,0,none⟩)] w (DrawPost w g A n c 256):=by
 obtain ⟨i,x,hi,hc⟩:=hc;have HC:=Lib.hid hc;have c0:w.cell? ⟨g,0,none⟩=some (.slice A n c):=hc.cell (i:=0) (by omega);have c1:w.cell? ⟨g,1,none⟩=some (.int .i64 (i:Int)):=hc.cell (i:=1) (by omega);have c2:w.cell? ⟨g,2,none⟩=some (.int .i64 x):=hc.cell (i:=2) (by omega);have f1:=hc.frozen 1;have f2:=hc.frozen 2;go_enter Tryzx.func146,Tryz.ntmps146;go_wp2_with fail
 generalize wrap64 (wrap64 (x*6364136223846793005)+1442695040888963407)=y;have HC1:Hid (Cur (w.setCell ⟨g,2,none⟩ (.int .i64 y)) g A n c i y):=(RowF.set HC.out 2 (.int .i64 y)).congr (fun j hj=>by match j,hj with | 0,_=>rfl | 1,_=>rfl | 2,_=>rfl);have HO1:=Lib.hid (Only.setCell (Only.refl g w) 2 (.int .i64 y));have hb1:∀ k,k<n→∃ b off,A=some ⟨b,off,none⟩∧(w.setCell ⟨g,2,none⟩ (.int .i64 y)).cell? ⟨b,off+k,none⟩=some (.int .u8 (nth zs k)):=fun k hk=>by
  obtain ⟨b,off,e,hb,hcc⟩:=h.2 (by omega);exact ⟨b,off,e,(HO1.out.cell (p:=⟨b,off+k,none⟩) (by simp; omega)).trans (hcc k hk)⟩
 have HB1:=Lib.hid hb1;generalize w.setCell ⟨g,2,none⟩ (.int .i64 y)=w1 at *
 have hz:=h.1;clear c0 c1 c2 f1 f2 hb1 hc HC h;have c0:w1.cell? ⟨g,0,none⟩=some (.slice A n c):=RowF.cell HC1.out (i:=0) (by omega);have c1:w1.cell? ⟨g,1,none⟩=some (.int .i64 (i:Int)):=RowF.cell HC1.out (i:=1) (by omega);have c2:w1.cell? ⟨g,2,none⟩=some (.int .i64 y):=RowF.cell HC1.out (i:=2) (by omega);have f1:=RowF.frozen HC1.out 1;go_quiet (fail)
 have hr:=and_low (bits BinOp.xor IntKind.i64 (y / 8589934592) (y / 35184372088832)) 255 (by omega);have e255:((255:Nat):Int)=255:=rfl;rw [e255] at hr;generalize bits BinOp.and IntKind.i64 (bits BinOp.xor IntKind.i64 (y / 8589934592) (y / 35184372088832)) 255=r at *
 clear e255;go_wp2_with fail
 by_cases hlt:i<n
 ·obtain ⟨b,off,rfl,hx⟩:=HB1.out i hlt
  have hzz:=hz.2 i;have ki:(i:Int)<(n:Int):=by omega
  have k0:(0:Int)≤(i:Int):=by omega
  go_quiet (fail)
  go_wp2_with fail
  go_quiet (fail)
  have hr2:=and_low (r+nth zs i) 255 (by omega);have e255:((255:Nat):Int)=255:=rfl;rw [e255] at hr2;generalize bits BinOp.and IntKind.i64 (r+nth zs i) 255=r2 at *
  clear e255;have HC2:Hid (∀ k,Cur ((w1.drewN k).setCell ⟨g,1,none⟩ (.int .i64 ((i:Int)+1))) g (some ⟨b,off,none⟩) n c (i+1) y):=fun k=>(RowF.set (RowF.drewN HC1.out k) 1 (.int .i64 ((i:Int)+1))).congr (fun j hj=>by match j,hj with | 0,_=>rfl | 1,_=>rfl | 2,_=>rfl)
  go_wp2;go_ret;exact ⟨r2,rfl,hr2.1,by omega,⟨i+1,y,by omega,HC2.out _⟩,(HO1.out.drewN _).setCell 1 _⟩
 ·have ki:¬ (i:Int)<(n:Int):=by omega
  go_quiet (fail)
  go_wp2;go_ret;exact ⟨r,rfl,hr.1,by omega,⟨i,y,hi,HC1.out⟩,HO1.out.drewN _⟩
set_option maxRecDepth 100000 in
set_option maxHeartbeats 3200000 in
theorem l01Below_any (g:Nat) (A:Option Addr) (n c:Nat) (zs:List Int) (m:Int) (w:World) (h:BytesAt w g A n zs) (hn:n≤1048576) (hc:CurAt w g A n c) (h0:0<m) (h1:m≤256) :
  Calls Tryzx.prog 95 #[.pointer (some ⟨g,0,none⟩),.int .i64 m] w (DrawPost w g A n c m):=by
 go_enter Tryzx.func95,Tryz.ntmps95;go_wp2_with fail
 refine (l01Byte_any g A n c zs _ h hn hc).mono ?_;rintro e w1 ⟨r,rfl,hr0,hr1,hc1,ho1⟩;have HR:=Lib.hid (show CurAt w1 g A n c∧Only g w w1 from ⟨hc1,ho1⟩);have hm0:¬ m=0:=by omega
 have hmb:(m == 0)=false:=by simpa using hm0
 have hq1:0≤r % m:=Int.emod_nonneg _ hm0;have hq2:r % m<m:=Int.emod_lt_of_pos _ h0;clear hc1 ho1 hc h;go_wp2;go_ret;exact ⟨r % m,rfl,hq1,hq2,HR.out.1,HR.out.2⟩
theorem BytesAt.only {w w':World} {g B n:Nat} {A:Option Addr} {zs:List Int} (h:BytesAt w B A n zs) (ho:Only g w w') (hB:B≤g):BytesAt w' B A n zs :=
 ⟨h.1,fun hn=>by
  obtain ⟨b,off,e,hb,hc⟩:=h.2 hn;exact ⟨b,off,e,hb,fun k hk'=>(ho.cell (p:=⟨b,off+k,none⟩) (by simp; omega)).trans (hc k hk')⟩⟩
end X
namespace X
open Go.RowKit
theorem box_setS {w:World} {g:Nat} {t:TypeId} {f:Nat→Value} (v:Value) (h:RowF w g t 1 f):Box (w.setCell ⟨g,0,none⟩ v) g v :=
 ⟨by have:=(h.set 0 v).cell (i:=0) (by omega); simpa using this,by simpa using h.lt⟩
theorem rowF_new1S (w:World) (u:Value) (t:TypeId):RowF (w.alloc (.cells #[u] t)) w.heap.size t 1 (fun _=>u):=RowF.of_row (World.rowIs_alloc w #[u] t (fun _=>u) (fun i hi=>by simp at hi; subst hi; rfl))
end X
namespace X
open Go.RowKit
def ShpPost (w:World) (e:Ending) (w':World):Prop :=
 ∃ (g m:Nat) (zs:List Int),e = .returned (.agg #[.slice (some ⟨g,0,none⟩) m m])∧w.heap.size<g∧RowF w' g 45 (m*4) (ints zs)∧zs.length=m*4∧archB zs m=true∧Below w.heap.size w w'
theorem rowF_lit (w:World) (t:TypeId) (zs:List Int) (m:Nat) (hs:zs.length=m):RowF (w.alloc (.cells (zs.map (Value.int .i64)).toArray t)) w.heap.size t m (ints zs):=by
 subst hs;have h:=World.rowIs_alloc w (zs.map (Value.int .i64)).toArray t (ints zs) (fun j hj=>by
  simp at hj;simp [ints,nth_get _ _ hj,hj])
 have e:(zs.map (Value.int .i64)).toArray.size=zs.length:=by simp
 rw [e] at h;exact RowF.of_row h
def shp0:List Int := [-8,0,-11,0,-6,5,-8,7,-2,8,-3,11,2,8,3,11,6,5,8,7,8,0,11,0]
theorem shp0_ok:archB shp0 6=true:=by decide
def shp1:List Int := [0,0,-2,3,5,2,4,6,11,2,12,6,16,0,18,3]
theorem shp1_ok:archB shp1 4=true:=by decide
def shp2:List Int := [0,0,-3,0,2,6,0,8,6,11,6,14,10,6,12,8,12,0,15,0]
theorem shp2_ok:archB shp2 5=true:=by decide
def shp3:List Int := [0,0,-1,4,4,0,4,4,8,0,8,4,12,0,13,4]
theorem shp3_ok:archB shp3 4=true:=by decide
def shp4:List Int := [-9,0,-10,0,-6,7,-7,8,0,9,0,10,6,7,7,8,9,0,10,0]
theorem shp4_ok:archB shp4 5=true:=by decide
def shp5:List Int := [0,0,-2,2,6,4,6,7,12,2,14,4]
theorem shp5_ok:archB shp5 3=true:=by decide
set_option maxRecDepth 100000 in
set_option maxHeartbeats 12800000 in
theorem l06Shape_any (k:Int) (w:World) (h0:0≤k) (h1:k<6):Calls Tryzx.prog 81 #[.int .i64 k] w (ShpPost w):=by
 have HB0:Hid (Below w.heap.size w (w.alloc (.cells #[.slice none 0 0] 26))):=Lib.hid ((Below.refl _ _).alloc (Nat.le_refl _) _);have h:k=0 ∨ k=1 ∨ k=2 ∨ k=3 ∨ k=4 ∨ k=5:=by omega
 clear h0 h1;rcases h with rfl | rfl | rfl | rfl | rfl | rfl
 ·go_enter Tryzx.func81,Tryz.ntmps81
  go_wp2;refine bodyPost_ret (v := .agg #[.slice (some ⟨w.heap.size+1,0,none⟩) 6 6]) (by simp [results,Tryz.results81,go_sem]) rfl ?_;refine ⟨w.heap.size+1,6,shp0,rfl,by omega,?_,rfl,shp0_ok,?_⟩
  ·have h:=rowF_lit (w.alloc (.cells #[.slice (some ⟨w.heap.size+1,0,none⟩) 6 6] 26)) 45 shp0 (6*4) rfl
   rw [World.size_alloc] at h;exact h
  ·exact (((Below.refl _ _).alloc (Nat.le_refl _) _).alloc (by simp) _)
 ·go_enter Tryzx.func81,Tryz.ntmps81
  go_wp2;refine bodyPost_ret (v := .agg #[.slice (some ⟨w.heap.size+1,0,none⟩) 4 4]) (by simp [results,Tryz.results81,go_sem]) rfl ?_;refine ⟨w.heap.size+1,4,shp1,rfl,by omega,?_,rfl,shp1_ok,?_⟩
  ·have h:=rowF_lit (w.alloc (.cells #[.slice (some ⟨w.heap.size+1,0,none⟩) 4 4] 26)) 45 shp1 (4*4) rfl
   rw [World.size_alloc] at h;exact h
  ·exact (((Below.refl _ _).alloc (Nat.le_refl _) _).alloc (by simp) _)
 ·go_enter Tryzx.func81,Tryz.ntmps81
  go_wp2;refine bodyPost_ret (v := .agg #[.slice (some ⟨w.heap.size+1,0,none⟩) 5 5]) (by simp [results,Tryz.results81,go_sem]) rfl ?_;refine ⟨w.heap.size+1,5,shp2,rfl,by omega,?_,rfl,shp2_ok,?_⟩
  ·have h:=rowF_lit (w.alloc (.cells #[.slice (some ⟨w.heap.size+1,0,none⟩) 5 5] 26)) 45 shp2 (5*4) rfl
   rw [World.size_alloc] at h;exact h
  ·exact (((Below.refl _ _).alloc (Nat.le_refl _) _).alloc (by simp) _)
 ·go_enter Tryzx.func81,Tryz.ntmps81
  go_wp2;refine bodyPost_ret (v := .agg #[.slice (some ⟨w.heap.size+1,0,none⟩) 4 4]) (by simp [results,Tryz.results81,go_sem]) rfl ?_;refine ⟨w.heap.size+1,4,shp3,rfl,by omega,?_,rfl,shp3_ok,?_⟩
  ·have h:=rowF_lit (w.alloc (.cells #[.slice (some ⟨w.heap.size+1,0,none⟩) 4 4] 26)) 45 shp3 (4*4) rfl
   rw [World.size_alloc] at h;exact h
  ·exact (((Below.refl _ _).alloc (Nat.le_refl _) _).alloc (by simp) _)
 ·go_enter Tryzx.func81,Tryz.ntmps81
  go_wp2;refine bodyPost_ret (v := .agg #[.slice (some ⟨w.heap.size+1,0,none⟩) 5 5]) (by simp [results,Tryz.results81,go_sem]) rfl ?_;refine ⟨w.heap.size+1,5,shp4,rfl,by omega,?_,rfl,shp4_ok,?_⟩
  ·have h:=rowF_lit (w.alloc (.cells #[.slice (some ⟨w.heap.size+1,0,none⟩) 5 5] 26)) 45 shp4 (5*4) rfl
   rw [World.size_alloc] at h;exact h
  ·exact (((Below.refl _ _).alloc (Nat.le_refl _) _).alloc (by simp) _)
 ·go_enter Tryzx.func81,Tryz.ntmps81
  go_wp2;refine bodyPost_ret (v := .agg #[.slice (some ⟨w.heap.size+1,0,none⟩) 3 3]) (by simp [results,Tryz.results81,go_sem]) rfl ?_;refine ⟨w.heap.size+1,3,shp5,rfl,by omega,?_,rfl,shp5_ok,?_⟩
  ·have h:=rowF_lit (w.alloc (.cells #[.slice (some ⟨w.heap.size+1,0,none⟩) 3 3] 26)) 45 shp5 (3*4) rfl
   rw [World.size_alloc] at h;exact h
  ·exact (((Below.refl _ _).alloc (Nat.le_refl _) _).alloc (by simp) _)
end X
end Go.Proofs.YtpblihmhpalkfaaGreat
section
namespace Go.Proofs.Tryzx
theorem ntmps79:Tryz.f79.ntmps=85:=Tryz.ntmps79
theorem ntmps117:Tryz.f117.ntmps=8:=Tryz.ntmps117
theorem ntmps118:Tryz.f118.ntmps=9:=Tryz.ntmps118
end Go.Proofs.Tryzx
end
namespace Go.Proofs.YtpblihmhpalkfaaGreat
namespace X
open Go.RowKit
theorem infoJoint:(Tryzx.prog.info? 45).map (fun i=>(i.zero,i.size,i.bytes))=some (some (.agg #[.int .i64 0,.int .i64 0,.int .i64 0,.int .i64 0]),4,32):=by kernel_rfl
end X
namespace X
open Go.RowKit
def CpyPost (w:World) (n:Nat) (zs:List Int) (e:Ending) (w':World):Prop :=
 ∃ g c:Nat,e = .returned (.agg #[.slice (some ⟨g,0,none⟩) n c])∧w.heap.size<g∧n≤c∧RowF w' g 45 (n*4) (ints zs)∧Below w.heap.size w w'
set_option maxRecDepth 100000 in
set_option maxHeartbeats 3200000 in
theorem l06Copy_any (b n c:Nat) (zs:List Int) (w:World) (h:RowF w b 45 (n*4) (ints zs)) (hl:zs.length=n*4) (hn1:1≤n) (hn:n≤1048576) :
  Calls Tryzx.prog 117 #[.agg #[.slice (some ⟨b,0,none⟩) n c]] w (CpyPost w n zs):=by
 have hz:((w.alloc (.cells #[.slice (some ⟨b,0,none⟩) n c] 26)).alloc (.cells #[.slice none 0 0] 26)).heap.size=w.heap.size+1+1:=by simp
 have HBA:Hid (Below w.heap.size w (((w.alloc (.cells #[.slice (some ⟨b,0,none⟩) n c] 26)).alloc (.cells #[.slice none 0 0] 26)).alloc (.cells #[] 45))):=Lib.hid ((((Below.refl _ _).alloc (Nat.le_refl _) _).alloc (by simp) _).alloc (by simp; omega) _)
 have HBC:Hid (Below (w.heap.size+1+1) ((w.alloc (.cells #[.slice (some ⟨b,0,none⟩) n c] 26)).alloc (.cells #[.slice none 0 0] 26)) (((w.alloc (.cells #[.slice (some ⟨b,0,none⟩) n c] 26)).alloc (.cells #[.slice none 0 0] 26)).alloc (.cells #[] 45))):=Lib.hid ((Below.refl _ _).alloc (by rw [hz]; exact Nat.le_refl _) _);have HB2:Hid (Below w.heap.size w ((w.alloc (.cells #[.slice (some ⟨b,0,none⟩) n c] 26)).alloc (.cells #[.slice none 0 0] 26))):=Lib.hid (((Below.refl _ _).alloc (Nat.le_refl _) _).alloc (by simp) _);have HO:Hid (OwnR (((w.alloc (.cells #[.slice (some ⟨b,0,none⟩) n c] 26)).alloc (.cells #[.slice none 0 0] 26)).alloc (.cells #[] 45)) (w.heap.size+1+1) 45 4 (.slice (some ⟨w.heap.size+1+1,0,none⟩) 0 0) 0 []):=Lib.hid (by
  have h:=OwnR.new ((w.alloc (.cells #[.slice (some ⟨b,0,none⟩) n c] 26)).alloc (.cells #[.slice none 0 0] 26)) 45 4;rw [hz] at h;exact h)
 have HR0:Hid (RowF ((w.alloc (.cells #[.slice (some ⟨b,0,none⟩) n c] 26)).alloc (.cells #[.slice none 0 0] 26)) (w.heap.size+1) 26 1 (fun _ => .slice none 0 0)):=Lib.hid (by
  have h:=rowF_new1S (w.alloc (.cells #[.slice (some ⟨b,0,none⟩) n c] 26)) (.slice none 0 0) 26;rw [World.size_alloc] at h;exact h)
 have HH:=Lib.hid (h.after HBA.out);have hbl:=h.lt;clear h hz;go_enter Tryzx.func117,Tryz.ntmps117;go_wp2_with (at_builtin; refine wpList_appR _ rfl (.tmp 3) (.tmp 5) 24 rfl (w.heap.size+1+1) 45 4 32 #[.int .i64 0,.int .i64 0,.int .i64 0,.int .i64 0] Tryzx.underlying24 infoJoint rfl (by decide) (by decide) _ 0 [] rfl (by exact HO.out) b n c zs rfl hl (fun i hi=>by exact HH.out.cell hi) (by omega) (w.heap.size+1+1) ((w.alloc (.cells #[.slice (some ⟨b,0,none⟩) n c] 26)).alloc (.cells #[.slice none 0 0] 26)) (by exact HBC.out) (Nat.le_refl _) (by simp) _ rfl ?_ hn1; intro g' cap' w3 hown3 hb3; have HR3:=Lib.hid (HR0.out.below hb3 (by omega)); have r0:w3.cell? ⟨w.heap.size+1,0,none⟩=some (.slice none 0 0):=HR3.out.cell (i:=0) (by omega); have f0:=HR3.out.frozen 0; have z0:=HR3.out.lt);have HB3:=Lib.hid (HB2.out.trans (hb3.mono (by omega)));have HG:Hid (w.heap.size+1+1≤g'∧n≤cap'∧RowF w3 g' 45 (n*4) (ints zs)):=Lib.hid (by
  rcases hown3.form with ⟨_,h2,_⟩ | ⟨g,cap,e,h1,h2,h3⟩
  ·omega
  ·simp only [Value.slice.injEq,Option.some.injEq,Addr.mk.injEq,and_true,true_and] at e
   obtain ⟨rfl,rfl⟩:=e;refine ⟨h1,by omega,?_⟩;simpa using h3)
 clear hown3 hb3;go_wp2;refine bodyPost_ret (v := .agg #[.slice (some ⟨g',0,none⟩) n cap']) (by simp [results,Tryz.results117,go_sem, *]) rfl ?_;exact ⟨g',cap',rfl,by have:=HG.out.1; omega,HG.out.2.1,HG.out.2.2.set_other (by have:=HG.out.1; simp; omega) _,HB3.out.setCell (by simp) _⟩
set_option maxHeartbeats 1600000 in
theorem l01Once_any (g:Nat) (A:Option Addr) (n c:Nat) (zs:List Int) (m:Int) (w:World) (h:BytesAt w g A n zs) (hn:n≤1048576) (hc:CurAt w g A n c) (h0:0<m) (h1:m≤256) :
  Calls Tryzx.prog 118 #[.pointer (some ⟨g,0,none⟩),.int .i64 m] w fun e w'=>∃ b:Bool,e = .returned (.bool b)∧CurAt w' g A n c∧Only g w w':=by
 go_enter Tryzx.func118,Tryz.ntmps118;go_wp2_with fail
 refine (l01Below_any g A n c zs m _ h hn hc h0 h1).mono ?_;rintro e w1 ⟨r,rfl,hr0,hr1,hc1,ho1⟩;have HR:=Lib.hid (show CurAt w1 g A n c∧Only g w w1 from ⟨hc1,ho1⟩);clear hc1 ho1 hc h;go_wp2;go_ret;exact ⟨_,rfl,HR.out.1,HR.out.2⟩
end X
namespace X
open Go.RowKit
def KeepB (g B:Nat) (w w':World):Prop:=∀ k,k<B→k ≠ g→w'.heap[k]?=w.heap[k]?
theorem KeepB.only {g B:Nat} {w wr w':World} (h:KeepB g B w wr) (ho:Only g wr w'):KeepB g B w w':=fun k hk hg=>(ho.block k hg).trans (h k hk hg)
theorem KeepB.belowB {g B C:Nat} {w wr w':World} (h:KeepB g B w wr) (hb:Below C wr w') (hC:B≤C):KeepB g B w w':=fun k hk hg=>(hb.block k (by omega)).trans (h k hk hg)
theorem KeepB.set {g B:Nat} {w wr:World} (h:KeepB g B w wr) {p:Addr} (hp:B≤p.block) (v:Value):KeepB g B w (wr.setCell p v):=h.belowB ((Below.refl B wr).setCell hp v) (Nat.le_refl _)
theorem KeepB.trans {g B B':Nat} {w wr w':World} (h:KeepB g B w wr) (h':KeepB g B' wr w') (hB:B≤B'):KeepB g B w w':=fun k hk hg=>(h' k (by omega) hg).trans (h k hk hg)
theorem KeepB.row {g B:Nat} {w w':World} (h:KeepB g B w w') {k M:Nat} {T:TypeId} {f:Nat→Value} (hr:RowF w k T M f) (hk:k<B) (hg:k ≠ g):RowF w' k T M f:=RowF.of_block hr (h k hk hg)
structure ArSt (w wr:World) (g:Nat) (A:Option Addr) (n c:Nat) (zs:List Int) (X b m d:Nat) (Z:List Int):Prop where
 res:RowF wr w.heap.size 26 1 (fun _ => .slice none 0 0)
 box:RowF wr X 26 1 (fun _ => .slice (some ⟨b,0,none⟩) m d)
 row:RowF wr b 45 (m*4) (ints Z)
 ok:Z.length=m*4∧archB Z m=true∧m≤d
 far:g<w.heap.size∧w.heap.size<X∧w.heap.size<b
 cur:CurAt wr g A n c
 code:BytesAt wr g A n zs
 below:Below g w wr
 keep:KeepB g w.heap.size w wr
section
variable {w wr w' : World} {g : Nat} {A : Option Addr} {n c : Nat} {zs : List Int} {X b m d : Nat} {Z : List Int}
theorem ArSt.only (h:ArSt w wr g A n c zs X b m d Z) (ho:Only g wr w') (hc:CurAt w' g A n c):ArSt w w' g A n c zs X b m d Z :=
 ⟨h.res.only ho (by have:=h.far; omega),h.box.only ho (by have:=h.far; omega),h.row.only ho (by have:=h.far; omega),h.ok,h.far,hc,h.code.only ho (Nat.le_refl _),h.below.trans (ho.below (Nat.le_refl _)),h.keep.only ho⟩
theorem ArSt.after (h:ArSt w wr g A n c zs X b m d Z) (hb:Below wr.heap.size wr w'):ArSt w w' g A n c zs X b m d Z :=
 ⟨h.res.after hb,h.box.after hb,h.row.after hb,h.ok,h.far,h.cur.after hb,h.code.below (hb.mono (by have:=h.far; have:=h.below.size; omega)),h.below.trans (hb.mono (by have:=h.far; have:=h.below.size; omega)),h.keep.belowB hb h.below.size⟩
theorem ArSt.setOther (h:ArSt w wr g A n c zs X b m d Z) {p:Addr} (h1:w.heap.size<p.block) (h2:X ≠ p.block) (h3:b ≠ p.block) (v:Value):ArSt w (wr.setCell p v) g A n c zs X b m d Z:=by
 have hf:=h.far;refine ⟨h.res.set_other (by omega) v,h.box.set_other h2 v,h.row.set_other h3 v,h.ok,h.far,?_,h.code.below ((Below.refl _ _).setCell (by omega) v),h.below.setCell (by omega) v,h.keep.set (by omega) v⟩;obtain ⟨i,x,hi,hc⟩:=h.cur;exact ⟨i,x,hi,RowF.set_other hc (by omega) v⟩
theorem ArSt.drew (h:ArSt w wr g A n c zs X b m d Z):ArSt w wr.drew g A n c zs X b m d Z :=
 ⟨h.res,h.box,h.row,h.ok,h.far,h.cur,h.code,below_drewN h.below 1,h.keep⟩
theorem ArSt.swap {b' d':Nat} {Z':List Int} (h:ArSt w wr g A n c zs X b m d Z) (hr:RowF wr b' 45 (m*4) (ints Z')) (ho:Z'.length=m*4∧archB Z' m=true∧m≤d') (hb:w.heap.size<b'∧X ≠ b'):ArSt w (wr.setCell ⟨X,0,none⟩ (.slice (some ⟨b',0,none⟩) m d')) g A n c zs X b' m d' Z':=by
 have hf:=h.far;refine ⟨h.res.set_other (by simp; omega) _,(h.box.set 0 _).congr (fun j hj=>by simp; omega),hr.set_other (by simp; omega) _,ho,⟨hf.1,hf.2.1,hb.1⟩,?_,h.code.below ((Below.refl _ _).setCell (by simp; omega) _),h.below.setCell (by simp; omega) _,h.keep.set (by simp; omega) _⟩
 obtain ⟨i,x,hi,hc⟩:=h.cur;exact ⟨i,x,hi,RowF.set_other hc (by simp; omega) _⟩
end
theorem nth_setZ (Z:List Int) (t:Nat) (x:Int) (i:Nat) (ht:t<Z.length):nth (Z.set t x) i=if i=t then x else nth Z i:=by
 by_cases hi:i<Z.length
 ·rw [nth_get _ _ (by rw [List.length_set]; exact hi),List.getElem_set]
  by_cases e:t=i
  ·subst e; simp
  ·rw [if_neg e,if_neg (fun h=>e h.symm),nth_get _ _ hi]
 ·have e:¬ i=t:=by omega
  rw [if_neg e];simp [nth,List.getD,Nat.not_lt.1 hi]
theorem rowF_put2 {w:World} {b M p:Nat} {E:TypeId} {Z:List Int} (h:RowF w b E M (ints Z)) (hl:Z.length=M) (hp:p+1<M) (x y:Int):RowF ((w.setCell ⟨b,p,none⟩ (.int .i64 x)).setCell ⟨b,p+1,none⟩ (.int .i64 y)).drew b E M (ints ((Z.set p x).set (p+1) y)):=by
 refine (((h.set p (.int .i64 x)).set (p+1) (.int .i64 y)).congr (fun j hj => ?_)).drew;simp only [ints];rw [nth_setZ _ _ _ _ (by rw [List.length_set]; omega),nth_setZ _ _ _ _ (by omega)]
 by_cases e1:j=p+1
 ·simp [e1]
 ·by_cases e2:j=p
  ·subst e2; simp
  ·simp [e1,e2]
def ArPostK (w:World) (g:Nat) (A:Option Addr) (n c:Nat) (e:Ending) (w':World):Prop :=
 ∃ (b m d:Nat) (Z:List Int),e = .returned (.agg #[.slice (some ⟨b,0,none⟩) m d])∧w.heap.size<b∧m≤d∧RowF w' b 45 (m*4) (ints Z)∧Z.length=m*4∧archB Z m=true∧CurAt w' g A n c∧KeepB g w.heap.size w w'∧Below g w w'
set_option maxRecDepth 100000 in
set_option maxHeartbeats 6400000 in
theorem l06Arch_keep (g:Nat) (A:Option Addr) (n c:Nat) (zs:List Int) (w:World) (h:BytesAt w g A n zs) (hn:n≤1048576) (hc:CurAt w g A n c) (hg:g<w.heap.size) :
  Calls Tryzx.prog 79 #[.pointer (some ⟨g,0,none⟩)] w (ArPostK w g A n c):=by
 have h0:BytesAt (w.alloc (.cells #[.slice none 0 0] 26)) g A n zs:=h.below ((Below.refl _ _).alloc (by omega) _);have hc0:CurAt (w.alloc (.cells #[.slice none 0 0] 26)) g A n c:=hc.after ((Below.refl _ _).alloc (Nat.le_refl _) _);have HB0:Hid (Below g w (w.alloc (.cells #[.slice none 0 0] 26))):=Lib.hid ((Below.refl _ _).alloc (by omega) _);have HV0:Hid (RowF (w.alloc (.cells #[.slice none 0 0] 26)) w.heap.size 26 1 (fun _ => .slice none 0 0)):=Lib.hid (rowF_new1S _ _ _);have HS0:Hid ((w.alloc (.cells #[.slice none 0 0] 26)).heap.size=w.heap.size+1):=Lib.hid (by simp);have HG:=Lib.hid hg;clear h hc;go_enter Tryzx.func79,Tryz.ntmps79;go_wp2_with fail
 refine (l01Below_any g A n c zs 6 _ h0 hn hc0 (by omega) (by omega)).mono ?_;rintro e w1 ⟨x,rfl,x0,x1,hc1,ho1⟩;have HH1:=Lib.hid (h0.only ho1 (Nat.le_refl _));have HB1:=Lib.hid (HB0.out.trans (ho1.below (Nat.le_refl _)));have HV1:=Lib.hid (HV0.out.only ho1 (by have:=HG.out; omega))
 have HS1:=Lib.hid (ho1.size.trans HS0.out);have HC1:=Lib.hid hc1;have HK0:Hid (KeepB g w.heap.size w (w.alloc (.cells #[.slice none 0 0] 26))):=Lib.hid (fun k hk _=>((Below.refl w.heap.size w).alloc (Nat.le_refl _) _).block k hk);have HK1:=Lib.hid (HK0.out.only ho1);clear h0 hc0 ho1 HB0 HV0 HS0 hc1;go_wp2_with fail
 refine (l06Shape_any x w1 x0 x1).mono ?_;rintro e w2 ⟨b,m,Z,rfl,hbg,hbr,hbl,hbo,hb2⟩;have HA2:Hid (ArSt w (w2.alloc (.cells #[.slice (some ⟨b,0,none⟩) m m] 26)) g A n c zs w2.heap.size b m m Z):=Lib.hid (by
  have h1:=HG.out;have h2:=HS1.out;have h3:=hb2.size;have hbb:=hb2.alloc (o := .cells #[.slice (some ⟨b,0,none⟩) m m] 26) h3;exact ⟨HV1.out.after hbb,rowF_new1S _ _ _,hbr.alloc _,⟨hbl,hbo,Nat.le_refl _⟩,⟨h1,by omega,by omega⟩,HC1.out.after hbb,HH1.out.below (hbb.mono (by omega)),HB1.out.trans (hbb.mono (by omega)),HK1.out.belowB hbb (by omega)⟩)
 obtain ⟨X,hX⟩:∃ X,w2.heap.size=X:=⟨_,rfl⟩;clear hbg hbr hbl hbo hb2 HH1 HB1 HV1 HS1 HC1;go_wp2_with fail
 refine (l01Below_any g A n c zs 5 _ HA2.out.code hn HA2.out.cur (by omega) (by omega)).mono ?_;rintro e w3 ⟨r,rfl,r0,r1,hc3,ho3⟩;have HA3:=Lib.hid (HA2.out.only ho3 hc3);rw [hX] at HA3;clear hc3 ho3 HA2;obtain ⟨q,rfl⟩:=Int.eq_ofNat_of_zero_le r0;go_wp2;go_loopw [4] (fun v4 wr=>∃ (k b m d:Nat) (Z:List Int),v4 = .int .i64 k∧k≤5∧Hid (ArSt w wr g A n c zs X b m d Z)) (fun v4 _=>(intOf v4).toNat)
 case atStart=>exact ⟨q,b,m,m,Z,rfl,by omega,HA3⟩
 case round =>
  clear HA3;obtain ⟨k,b,m,d,Z,rfl,hk5,HA⟩:=hrel;have bx:wr.cell? ⟨X,0,none⟩=some (.slice (some ⟨b,0,none⟩) m d):=HA.out.box.cell (i:=0) (by omega);have xf:=HA.out.box.frozen 0;have hm8:=(archB_out HA.out.ok.2.1).1;by_cases he:0<k
  ·have i1:(0:Int)<(k:Int):=by omega
   go_wp2_with fail
   refine (l06Copy_any b m d Z wr HA.out.row HA.out.ok.1 (by omega) (by omega)).mono ?_;rintro e w4 ⟨g2,d2,rfl,hg2,hd2,hr2,hb4⟩;have HR4:=Lib.hid (hr2.alloc (.cells #[.slice (some ⟨g2,0,none⟩) m d2] 26));have HY4:=Lib.hid (rowF_new1S w4 (.slice (some ⟨g2,0,none⟩) m d2) 26);have HA4:=Lib.hid (HA.out.after (hb4.alloc hb4.size (.cells #[.slice (some ⟨g2,0,none⟩) m d2] 26)));have HF4:Hid (w.heap.size<g2∧w.heap.size<w4.heap.size∧X ≠ w4.heap.size∧b ≠ g2∧X ≠ g2∧g2 ≠ w4.heap.size∧m≤d2):=Lib.hid (by
    have h1:=HA.out.below.size;have h2:=HA.out.box.lt;have h3:=hb4.size;have h4:=HA.out.row.lt;have h5:=hr2.lt;exact ⟨by omega,by omega,by omega,by omega,by omega,by omega,hd2⟩)
   obtain ⟨Y,hY⟩:∃ Y,w4.heap.size=Y:=⟨_,rfl⟩;rw [hY] at HY4 HF4;have y0:(w4.alloc (.cells #[.slice (some ⟨g2,0,none⟩) m d2] 26)).cell? ⟨Y,0,none⟩=some (.slice (some ⟨g2,0,none⟩) m d2):=HY4.out.cell (i:=0) (by omega);clear hg2 hd2 hr2 hb4 HA bx;go_wp2_with fail
   refine (l01Below_any g A n c zs (m:Int) _ HA4.out.code hn HA4.out.cur (by omega) (by omega)).mono ?_;rintro e w5 ⟨i,rfl,z0,z1,hc5,ho5⟩;have HA5:=Lib.hid (HA4.out.only ho5 hc5);have HY5:=Lib.hid (HY4.out.only ho5 (by have:=HA4.out.below.size; have:=HF4.out; omega))
   have HR5:=Lib.hid (HR4.out.only ho5 (by have:=HF4.out; omega))
   clear hc5 ho5 HA4 HY4 HR4 y0;obtain ⟨i,rfl⟩:=Int.eq_ofNat_of_zero_le z0;go_wp2_with fail
   refine (l01Below_any g A n c zs 3 _ HA5.out.code hn HA5.out.cur (by omega) (by omega)).mono ?_;rintro e w6 ⟨dx,rfl,dx0,dx1,hc6,ho6⟩;have HA6:=Lib.hid (HA5.out.only ho6 hc6);have HY6:=Lib.hid (HY5.out.only ho6 (by have:=HF4.out; omega))
   have HR6:=Lib.hid (HR5.out.only ho6 (by have:=HF4.out; omega))
   clear hc6 ho6 HA5 HY5 HR5;go_wp2_with fail
   refine (l01Below_any g A n c zs 3 _ HA6.out.code hn HA6.out.cur (by omega) (by omega)).mono ?_;rintro e w7 ⟨dy,rfl,dy0,dy1,hc7,ho7⟩;have HA7:=Lib.hid (HA6.out.only ho7 hc7);have HY7:=Lib.hid (HY6.out.only ho7 (by have:=HF4.out; omega))
   have HR7:=Lib.hid (HR6.out.only ho7 (by have:=HF4.out; omega))
   clear hc7 ho7 HA6 HY6 HR6;go_wp2_with fail
   refine (l01Once_any g A n c zs 2 _ HA7.out.code hn HA7.out.cur (by omega) (by omega)).mono ?_;rintro e w8 ⟨bb,rfl,hc8,ho8⟩;have HA8:=Lib.hid (HA7.out.only ho8 hc8);have HY8:=Lib.hid (HY7.out.only ho8 (by have:=HF4.out; omega))
   have HR8:=Lib.hid (HR7.out.only ho8 (by have:=HF4.out; omega))
   clear hc8 ho8 HA7 HY7 HR7;have y0:w8.cell? ⟨Y,0,none⟩=some (.slice (some ⟨g2,0,none⟩) m d2):=HY8.out.cell (i:=0) (by omega);have c0:w8.cell? ⟨g2,i*4,none⟩=some (.int .i64 (nth Z (i*4))):=HR8.out.cell (by omega);have c1:w8.cell? ⟨g2,i*4+1,none⟩=some (.int .i64 (nth Z (i*4+1))):=HR8.out.cell (by omega);have c2:w8.cell? ⟨g2,i*4+2,none⟩=some (.int .i64 (nth Z (i*4+2))):=HR8.out.cell (by omega);have c3:w8.cell? ⟨g2,i*4+3,none⟩=some (.int .i64 (nth Z (i*4+3))):=HR8.out.cell (by omega);have f0:=HR8.out.frozen (i*4);have f1:=HR8.out.frozen (i*4+1);have f2:=HR8.out.frozen (i*4+2);have f3:=HR8.out.frozen (i*4+3);have zl:=HR8.out.lt;have i2:(i:Int)<(m:Int):=by omega
   have i3:(0:Int)≤(i:Int):=by omega
   cases bb
   ·have HL9:Hid (((Z.set (i*4+2) (wrap64 (nth Z (i*4+2)+(dx - 1)))).set (i*4+2+1) (wrap64 (nth Z (i*4+3)+(dy - 1)))).length=m*4):=Lib.hid (by simp [HA8.out.ok.1])
    have HR9:Hid (RowF (((w8.setCell ⟨g2,i*4+2,none⟩ (.int .i64 (wrap64 (nth Z (i*4+2)+(dx - 1))))).setCell ⟨g2,i*4+2+1,none⟩ (.int .i64 (wrap64 (nth Z (i*4+3)+(dy - 1))))).drew) g2 45 (m*4) (ints ((Z.set (i*4+2) (wrap64 (nth Z (i*4+2)+(dx - 1)))).set (i*4+2+1) (wrap64 (nth Z (i*4+3)+(dy - 1)))))):=Lib.hid (rowF_put2 HR8.out HA8.out.ok.1 (by omega) _ _);have HA9:Hid (ArSt w (((w8.setCell ⟨g2,i*4+2,none⟩ (.int .i64 (wrap64 (nth Z (i*4+2)+(dx - 1))))).setCell ⟨g2,i*4+2+1,none⟩ (.int .i64 (wrap64 (nth Z (i*4+3)+(dy - 1))))).drew) g A n c zs X b m d Z):=Lib.hid ((((HA8.out.setOther (by exact HF4.out.1) (by exact HF4.out.2.2.2.2.1) (by exact HF4.out.2.2.2.1) _).setOther (by exact HF4.out.1) (by exact HF4.out.2.2.2.2.1) (by exact HF4.out.2.2.2.1) _)).drew);have HY9:Hid (RowF (((w8.setCell ⟨g2,i*4+2,none⟩ (.int .i64 (wrap64 (nth Z (i*4+2)+(dx - 1))))).setCell ⟨g2,i*4+2+1,none⟩ (.int .i64 (wrap64 (nth Z (i*4+3)+(dy - 1))))).drew) Y 26 1 (fun _ => .slice (some ⟨g2,0,none⟩) m d2)):=Lib.hid ((((HY8.out.set_other (by have:=HF4.out; simp; omega) _).set_other (by have:=HF4.out; simp; omega) _)).drew)
    go_wp2_with fail
    go_region
    clear y0 c0 c1 c2 c3 f0 f1 f2 f3 HR8 HA8 HY8;obtain ⟨W9,hW9⟩:∃ W9:World,((w8.setCell ⟨g2,i*4+2,none⟩ (.int .i64 (wrap64 (nth Z (i*4+2)+(dx - 1))))).setCell ⟨g2,i*4+2+1,none⟩ (.int .i64 (wrap64 (nth Z (i*4+3)+(dy - 1))))).drew=W9:=⟨_,rfl⟩;obtain ⟨Z9,hZ9⟩:∃ Z9:List Int,((Z.set (i*4+2) (wrap64 (nth Z (i*4+2)+(dx - 1)))).set (i*4+2+1) (wrap64 (nth Z (i*4+3)+(dy - 1))))=Z9:=⟨_,rfl⟩;rw [hW9] at HR9 HA9 HY9;rw [hZ9] at HR9 HL9;have y9:W9.cell? ⟨Y,0,none⟩=some (.slice (some ⟨g2,0,none⟩) m d2):=HY9.out.cell (i:=0) (by omega);go_wp2_with fail
    refine (sArchOk_any _ m _ Z9 W9 (HR9.out.recs HL9.out) (by omega)).mono ?_;rintro e w10 ⟨rfl,hb10⟩;have HA10:=Lib.hid (HA9.out.after hb10);have HR10:=Lib.hid (HR9.out.after hb10);have HY10:=Lib.hid (HY9.out.after hb10);have hk1:IntKind.i64.wrap ((k:Int) - 1)=((k - 1:Nat):Int):=by rw [IntWalk.i64_in _ (by omega)]; omega
    clear hb10 y9 HA9 HR9 HY9 hW9 hZ9;cases hB:archB Z9 m
    ·go_wp2
     go_roundw
     case rel=>exact ⟨k - 1,b,m,d,Z,by go_num,by omega,HA10⟩
     case measure=>simp [intOf]; omega
    ·have y10:w10.cell? ⟨Y,0,none⟩=some (.slice (some ⟨g2,0,none⟩) m d2):=HY10.out.cell (i:=0) (by omega)
     have x10:w10.cell? ⟨X,0,none⟩=some (.slice (some ⟨b,0,none⟩) m d):=HA10.out.box.cell (i:=0) (by omega);have xf10:=HA10.out.box.frozen 0;have HS10:=Lib.hid (HA10.out.swap (d':=d2) HR10.out ⟨HL9.out,hB,HF4.out.2.2.2.2.2.2⟩ ⟨HF4.out.1,HF4.out.2.2.2.2.1⟩);go_wp2;go_roundw
     case rel=>exact ⟨k - 1,g2,m,d2,Z9,by go_num,by omega,HS10⟩
     case measure=>simp [intOf]; omega
   ·have HL9:Hid (((Z.set (i*4) (wrap64 (nth Z (i*4)+(dx - 1)))).set (i*4+1) (wrap64 (nth Z (i*4+1)+(dy - 1)))).length=m*4):=Lib.hid (by simp [HA8.out.ok.1])
    have HR9:Hid (RowF (((w8.setCell ⟨g2,i*4,none⟩ (.int .i64 (wrap64 (nth Z (i*4)+(dx - 1))))).setCell ⟨g2,i*4+1,none⟩ (.int .i64 (wrap64 (nth Z (i*4+1)+(dy - 1))))).drew) g2 45 (m*4) (ints ((Z.set (i*4) (wrap64 (nth Z (i*4)+(dx - 1)))).set (i*4+1) (wrap64 (nth Z (i*4+1)+(dy - 1)))))):=Lib.hid (rowF_put2 HR8.out HA8.out.ok.1 (by omega) _ _);have HA9:Hid (ArSt w (((w8.setCell ⟨g2,i*4,none⟩ (.int .i64 (wrap64 (nth Z (i*4)+(dx - 1))))).setCell ⟨g2,i*4+1,none⟩ (.int .i64 (wrap64 (nth Z (i*4+1)+(dy - 1))))).drew) g A n c zs X b m d Z):=Lib.hid ((((HA8.out.setOther (by exact HF4.out.1) (by exact HF4.out.2.2.2.2.1) (by exact HF4.out.2.2.2.1) _).setOther (by exact HF4.out.1) (by exact HF4.out.2.2.2.2.1) (by exact HF4.out.2.2.2.1) _)).drew);have HY9:Hid (RowF (((w8.setCell ⟨g2,i*4,none⟩ (.int .i64 (wrap64 (nth Z (i*4)+(dx - 1))))).setCell ⟨g2,i*4+1,none⟩ (.int .i64 (wrap64 (nth Z (i*4+1)+(dy - 1))))).drew) Y 26 1 (fun _ => .slice (some ⟨g2,0,none⟩) m d2)):=Lib.hid ((((HY8.out.set_other (by have:=HF4.out; simp; omega) _).set_other (by have:=HF4.out; simp; omega) _)).drew)
    go_wp2_with fail
    go_region
    clear y0 c0 c1 c2 c3 f0 f1 f2 f3 HR8 HA8 HY8;obtain ⟨W9,hW9⟩:∃ W9:World,((w8.setCell ⟨g2,i*4,none⟩ (.int .i64 (wrap64 (nth Z (i*4)+(dx - 1))))).setCell ⟨g2,i*4+1,none⟩ (.int .i64 (wrap64 (nth Z (i*4+1)+(dy - 1))))).drew=W9:=⟨_,rfl⟩;obtain ⟨Z9,hZ9⟩:∃ Z9:List Int,((Z.set (i*4) (wrap64 (nth Z (i*4)+(dx - 1)))).set (i*4+1) (wrap64 (nth Z (i*4+1)+(dy - 1))))=Z9:=⟨_,rfl⟩;rw [hW9] at HR9 HA9 HY9;rw [hZ9] at HR9 HL9;have y9:W9.cell? ⟨Y,0,none⟩=some (.slice (some ⟨g2,0,none⟩) m d2):=HY9.out.cell (i:=0) (by omega);go_wp2_with fail
    refine (sArchOk_any _ m _ Z9 W9 (HR9.out.recs HL9.out) (by omega)).mono ?_;rintro e w10 ⟨rfl,hb10⟩;have HA10:=Lib.hid (HA9.out.after hb10);have HR10:=Lib.hid (HR9.out.after hb10);have HY10:=Lib.hid (HY9.out.after hb10);have hk1:IntKind.i64.wrap ((k:Int) - 1)=((k - 1:Nat):Int):=by rw [IntWalk.i64_in _ (by omega)]; omega
    clear hb10 y9 HA9 HR9 HY9 hW9 hZ9;cases hB:archB Z9 m
    ·go_wp2
     go_roundw
     case rel=>exact ⟨k - 1,b,m,d,Z,by go_num,by omega,HA10⟩
     case measure=>simp [intOf]; omega
    ·have y10:w10.cell? ⟨Y,0,none⟩=some (.slice (some ⟨g2,0,none⟩) m d2):=HY10.out.cell (i:=0) (by omega)
     have x10:w10.cell? ⟨X,0,none⟩=some (.slice (some ⟨b,0,none⟩) m d):=HA10.out.box.cell (i:=0) (by omega);have xf10:=HA10.out.box.frozen 0;have HS10:=Lib.hid (HA10.out.swap (d':=d2) HR10.out ⟨HL9.out,hB,HF4.out.2.2.2.2.2.2⟩ ⟨HF4.out.1,HF4.out.2.2.2.2.1⟩);go_wp2;go_roundw
     case rel=>exact ⟨k - 1,g2,m,d2,Z9,by go_num,by omega,HS10⟩
     case measure=>simp [intOf]; omega
  ·obtain rfl:k=0:=by omega
   have i1:¬ (0:Int)<((0:Nat):Int):=by omega
   have r0:wr.cell? ⟨w.heap.size,0,none⟩=some (.slice none 0 0):=HA.out.res.cell (i:=0) (by omega);have rf:=HA.out.res.frozen 0;have rl:=HA.out.res.lt;go_wp2;refine bodyPost_ret (v := .agg #[.slice (some ⟨b,0,none⟩) m d]) (by simp [results,Tryz.results79,go_sem, *]) rfl ?_;have hf:=HA.out.far;refine ⟨b,m,d,Z,rfl,hf.2.2,HA.out.ok.2.2,HA.out.row.set_other (by simp; omega) _,HA.out.ok.1,HA.out.ok.2.1,?_,HA.out.keep.set (by simp) _,HA.out.below.setCell (by simp; omega) _⟩
   obtain ⟨i,x,hi,hc⟩:=HA.out.cur;exact ⟨i,x,hi,RowF.set_other hc (by simp; omega) _⟩
end X
namespace X
open Go.RowKit
theorem big_any (A:Option Addr) (n c:Nat) (w:World):Calls Tryzx.prog 7 #[.slice A n c] w fun e w'=>e = .returned (.bool (decide ((1048576:Int)<(n:Int))))∧w=w':=by
 go_enter Tryzx.func7,Tryz.ntmps7;go_wp2;go_ret;exact ⟨rfl,rfl⟩
end X
namespace X
open Go.RowKit
theorem l04Cross_any (ax ay bx b_y:Int) (w:World) (ha:ptB ax ay=true) (hb:ptB bx b_y=true) :
  Calls Tryzx.prog 152 #[.agg #[.int .i64 ax,.int .i64 ay],.agg #[.int .i64 bx,.int .i64 b_y]] w fun e w'=>e = .returned (.int .i64 (crossI ax ay bx b_y))∧Below w.heap.size w w':=by
 have hcr:=crossI_bd ha hb;unfold crossI at hcr;rw [ptB_iff] at ha hb;have hmA:=mul_bd (m:=60) (n:=60) (a:=ax) (b:=b_y) (by omega) (by omega);have hmB:=mul_bd (m:=60) (n:=60) (a:=ay) (b:=bx) (by omega) (by omega);go_enter Tryzx.func152,Tryz.ntmps152;go_wp2;go_ret;exact ⟨rfl,((Below.refl _ _).alloc (Nat.le_refl _) _).alloc (by simp) _⟩
set_option maxRecDepth 100000 in
set_option maxHeartbeats 1600000 in
theorem sAreaTwice_any (A:Option Addr) (n c:Nat) (zs:List Int) (w:World) (h:RecsAt w w.heap.size 2 A n zs) (hn:n≤1048576) :
  Calls Tryzx.prog 151 #[.agg #[.slice A n c]] w fun e w'=>e = .returned (.int .i64 (overI facOne zs n))∧Below w.heap.size w w':=by
 have HA:=Lib.hid ((Below.refl w.heap.size w).alloc (Nat.le_refl _) (.cells #[.slice A n c] 126));have H:=Lib.hid h;cases hs:stoneB zs n
 ·have HF:=Lib.hid (overI_f (F:=facOne) hs)
  go_enter Tryzx.func151,Tryz.ntmps151;go_wp2;go_loopw [3,4] (fun s i wr=>s = .int .i64 0∧i = .int .i64 0∧wr.cell? ⟨w.heap.size,0,none⟩=some (.slice A n c)∧Below w.heap.size w wr) (fun _ i _=>n - (intOf i).toNat)
  case atStart=>exact ⟨rfl,rfl,cell_new0 _ _ _,HA.out⟩
  case round =>
   clear HA;obtain ⟨rfl,rfl,hbox,hb⟩:=hrel;have HB:=Lib.hid hb;by_cases h0:n=0
   ·subst h0
    clear hb;go_wp2;go_ret;exact ⟨ret_int HF.out.symm,HB.out⟩
   ·have hpos:(0:Int)<(n:Int):=by omega
    have hpos':0<n:=by omega
    have r1:=(H.out.below hb).mono hb.size;clear hb h0;go_wp2_with fail
    refine (sStoneOk_any _ _ _ zs _ r1).mono ?_;rw [hs];rintro e w1 ⟨rfl,hb1⟩;have HB1:=Lib.hid (HB.out.trans (hb1.mono HB.out.size));clear hb1;go_wp2;go_ret;exact ⟨ret_int HF.out.symm,HB1.out⟩
 ·have ho:=stoneB_out hs
  have HT:=Lib.hid (overI_t (F:=facOne) hs);have hn3:=ho.1.1;have hn6:=ho.1.2;have HPT:=Lib.hid ho.2.1;have HBD:=Lib.hid (overTo_bd facOne_ok ho.2.1);obtain ⟨b,off,rfl,hbB,hc⟩:=h.2 (by omega);have HC:=Lib.hid hc;clear hc h ho;go_enter Tryzx.func151,Tryz.ntmps151;go_wp2;go_loopw [3,4] (fun s i wr=>∃ j:Nat,j≤n∧i = .int .i64 j∧s = .int .i64 (overTo facOne zs n j)∧wr.cell? ⟨w.heap.size,0,none⟩=some (.slice (some ⟨b,off,none⟩) n c)∧Below w.heap.size w wr) (fun _ i _=>n - (intOf i).toNat)
  case atStart=>exact ⟨0,Nat.zero_le _,rfl,rfl,cell_new0 _ _ _,HA.out⟩
  case round =>
   clear HA;obtain ⟨j,hj,rfl,rfl,hbox,hb⟩:=hrel;have HB:=Lib.hid hb;have hgl:=World.block_lt_of_cell? _ _ hbox;simp only at hgl;by_cases hlt:j<n
   ·have r0:=(H.out.below hb).mono hb.size
    have hji:(j:Int)<(n:Int):=by omega
    clear hb;go_wp2_with fail
    refine (sStoneOk_any _ _ _ zs _ r0).mono ?_;rw [hs];rintro e w1 ⟨rfl,hb1⟩;have hb:=HB.out.trans (hb1.mono HB.out.size);have hbox1:=(hb1.cell (p:=⟨w.heap.size,0,none⟩) hgl).trans hbox;have hgl1:w.heap.size<w1.heap.size:=by have:=hb1.size; omega
    have HB1:=Lib.hid hb;have hm1:(j+1) % n<n:=Nat.mod_lt _ (by omega);obtain ⟨x0,x1⟩:=ptCells (fun i hi=>(hb.cell (by exact hbB)).trans (HC.out i hi)) hlt;obtain ⟨y0,y1⟩:=ptCells (fun i hi=>(hb.cell (by exact hbB)).trans (HC.out i hi)) hm1;have hz1:=hb.size;clear hb hb1 hbox hgl r0;have r1:Int.tmod ((j:Int)+1) (n:Int)=(((j+1) % n:Nat):Int):=rem_nat (j+1) n;have hpk:=HPT.out j hlt;have hp1:=HPT.out _ hm1;have HST:=Lib.hid (show overTo facOne zs n (j+1)=overTo facOne zs n j+part facOne zs j ((j+1) % n) from rfl);have hb0:=HBD.out j (by omega);unfold ptA at hpk hp1;have hcr:=crossI_bd hpk hp1;rw [part_one] at HST;generalize (j+1) % n=j1 at *
    generalize overTo facOne zs n j=S at *
    have i1:IntKind.i64.wrap ((j:Int)+1)=(j:Int)+1:=IntWalk.i64_in _ (by omega);have i3:IntKind.i64.wrap (j1:Int)=(j1:Int):=IntWalk.i64_in _ (by omega);have i6:(j1:Int)<(n:Int):=by omega
    have i8:¬ n=0:=by omega
    have i9:¬ (n:Int)=0:=by omega
    have i10:((n:Int) == 0)=false:=by simp; omega
    have i11:(0:Int)≤(j:Int):=by omega
    have i12:(0:Int)≤(j1:Int):=by omega
    have e5:IntKind.i64.wrap (S+crossI (nth zs (j*2)) (nth zs (j*2+1)) (nth zs (j1*2)) (nth zs (j1*2+1)))=S+crossI (nth zs (j*2)) (nth zs (j*2+1)) (nth zs (j1*2)) (nth zs (j1*2+1)):=IntWalk.i64_in _ (by omega);go_wp2;go_region_held3 (fun w'=>w'.cell? ⟨w.heap.size,0,none⟩=some (.slice (some ⟨b,off,none⟩) n c)∧(w'.cell? ⟨b,off+j*2,none⟩=some (.int .i64 (nth zs (j*2)))∧w'.cell? ⟨b,off+j*2+1,none⟩=some (.int .i64 (nth zs (j*2+1))))∧(w'.cell? ⟨b,off+j1*2,none⟩=some (.int .i64 (nth zs (j1*2)))∧w'.cell? ⟨b,off+j1*2+1,none⟩=some (.int .i64 (nth zs (j1*2+1))))) (first | (simp [*]; done) | (refine ⟨?_,⟨?_,?_⟩,⟨?_,?_⟩⟩ <;> (rw [hcc _ _ (by simp <;> omega)]; simp [*]))) ((go_at_call 152; refine (l04Cross_any _ _ _ _ _ hpk hp1).mono ?_; rintro e w2 ⟨rfl,hb2⟩; obtain ⟨hcc,hff⟩:=bcell hb2));have HB2:=Lib.hid (HB1.out.drew.trans (hb2.mono (by simp; omega)))
    have hbox2:=(hb2.cell (p:=⟨w.heap.size,0,none⟩) (by simp; omega)).trans hbox1
    clear hcc hff hb2;go_wp2;go_roundw
    case rel=>exact ⟨j+1,by omega,by go_num,by rw [HST.out],hbox2,HB2.out⟩
    case measure=>first | (simp [intOf]; done) | (simp [intOf]; omega)
   ·obtain rfl:j=n:=by omega
    clear hb;go_wp2;go_ret;exact ⟨ret_int HT.out.symm,HB.out⟩
theorem sWeightOf_any (A:Option Addr) (n c:Nat) (zs:List Int) (w:World) (h:RecsAt w w.heap.size 2 A n zs) (hn:n≤1048576) :
  Calls Tryzx.prog 106 #[.agg #[.slice A n c]] w fun e w'=>e = .returned (.int .i64 (weightI zs n))∧Below w.heap.size w w':=by
 have HA:=Lib.hid ((Below.refl w.heap.size w).alloc (Nat.le_refl _) (.cells #[.slice A n c] 126));have H0:RecsAt (w.alloc (.cells #[.slice A n c] 126)) (w.alloc (.cells #[.slice A n c] 126)).heap.size 2 A n zs:=(h.alloc (Nat.le_refl _) _).mono (by simp);have hbd:=overI_bd facOne_ok zs n;go_enter Tryzx.func106,Tryz.ntmps106;go_wp2_with fail
 refine (sAreaTwice_any _ _ _ zs _ H0 hn).mono ?_;rintro e w1 ⟨rfl,hb1⟩;have HB1:=Lib.hid (HA.out.trans (hb1.mono (by simp)));clear hb1;go_wp2;go_ret;exact ⟨ret_int (by unfold weightI; rfl),HB1.out⟩
end X
namespace X
open Go.RowKit
theorem cell_alloc_lt' {w:World} {o:Obj} {g i:Nat} (h:g<w.heap.size):(w.alloc o).cell? ⟨g,i,none⟩=w.cell? ⟨g,i,none⟩:=World.cell?_of_block (a:=⟨g,i,none⟩) (Below.heap_alloc w o g h)
theorem part_facX (zs:List Int) (i j:Nat):part facX zs i j=(nth zs (i*2)+nth zs (j*2))*crossI (nth zs (i*2)) (nth zs (i*2+1)) (nth zs (j*2)) (nth zs (j*2+1)):=rfl
def Two (w:World) (b:Nat) (u v:Value):Prop:=w.cell? ⟨b,0,none⟩=some u∧w.cell? ⟨b,1,none⟩=some v∧b<w.heap.size
theorem Two.new (w:World) (u v:Value) (t:TypeId):Two (w.alloc (.cells #[u,v] t)) w.heap.size u v:=by
 have h:=World.rowIs_alloc w #[u,v] t (fun i=>if i=0 then u else v) (fun i hi=>by simp at hi; match i,hi with | 0,_=>rfl | 1,_=>rfl)
 exact ⟨h.cell (by simp),h.cell (by simp),by simp⟩
theorem Two.alloc {w:World} {b:Nat} {u v:Value} (h:Two w b u v) (o:Obj):Two (w.alloc o) b u v:=⟨(cell_alloc_lt' h.2.2).trans h.1,(cell_alloc_lt' h.2.2).trans h.2.1,by have:=h.2.2; simp; omega⟩
set_option maxRecDepth 100000 in
set_option maxHeartbeats 1600000 in
theorem sMomentOf_any (A:Option Addr) (n c:Nat) (zs:List Int) (w:World) (h:RecsAt w w.heap.size 2 A n zs) (hn:n≤1048576) :
  Calls Tryzx.prog 107 #[.agg #[.slice A n c]] w fun e w'=>e = .returned (.int .i64 (overI facX zs n))∧Below w.heap.size w w':=by
 have HA:=Lib.hid ((Below.refl w.heap.size w).alloc (Nat.le_refl _) (.cells #[.slice A n c] 126));have H:=Lib.hid h;cases hs:stoneB zs n
 ·have HF:=Lib.hid (overI_f (F:=facX) hs)
  go_enter Tryzx.func107,Tryz.ntmps107;go_wp2;go_loopw [3,4] (fun s i wr=>s = .int .i64 0∧i = .int .i64 0∧wr.cell? ⟨w.heap.size,0,none⟩=some (.slice A n c)∧Below w.heap.size w wr) (fun _ i _=>n - (intOf i).toNat)
  case atStart=>exact ⟨rfl,rfl,cell_new0 _ _ _,HA.out⟩
  case round =>
   clear HA;obtain ⟨rfl,rfl,hbox,hb⟩:=hrel;have HB:=Lib.hid hb;by_cases h0:n=0
   ·subst h0
    clear hb;go_wp2;go_ret;exact ⟨ret_int HF.out.symm,HB.out⟩
   ·have hpos:(0:Int)<(n:Int):=by omega
    have hpos':0<n:=by omega
    have r1:=(H.out.below hb).mono hb.size;clear hb h0;go_wp2_with fail
    refine (sStoneOk_any _ _ _ zs _ r1).mono ?_;rw [hs];rintro e w1 ⟨rfl,hb1⟩;have HB1:=Lib.hid (HB.out.trans (hb1.mono HB.out.size));clear hb1;go_wp2;go_ret;exact ⟨ret_int HF.out.symm,HB1.out⟩
 ·have ho:=stoneB_out hs
  have HT:=Lib.hid (overI_t (F:=facX) hs);have hn3:=ho.1.1;have hn6:=ho.1.2;have HPT:=Lib.hid ho.2.1;have HBD:=Lib.hid (overTo_bd facX_ok ho.2.1);obtain ⟨b,off,rfl,hbB,hc⟩:=h.2 (by omega);have HC:=Lib.hid hc;clear hc h ho;go_enter Tryzx.func107,Tryz.ntmps107;go_wp2;go_loopw [3,4] (fun s i wr=>∃ j:Nat,j≤n∧i = .int .i64 j∧s = .int .i64 (overTo facX zs n j)∧wr.cell? ⟨w.heap.size,0,none⟩=some (.slice (some ⟨b,off,none⟩) n c)∧Below w.heap.size w wr) (fun _ i _=>n - (intOf i).toNat)
  case atStart=>exact ⟨0,Nat.zero_le _,rfl,rfl,cell_new0 _ _ _,HA.out⟩
  case round =>
   clear HA;obtain ⟨j,hj,rfl,rfl,hbox,hb⟩:=hrel;have HB:=Lib.hid hb;have hgl:=World.block_lt_of_cell? _ _ hbox;simp only at hgl;by_cases hlt:j<n
   ·have r0:=(H.out.below hb).mono hb.size
    have hji:(j:Int)<(n:Int):=by omega
    clear hb;go_wp2_with fail
    refine (sStoneOk_any _ _ _ zs _ r0).mono ?_;rw [hs];rintro e w1 ⟨rfl,hb1⟩;have hb:=HB.out.trans (hb1.mono HB.out.size);have hbox1:=(hb1.cell (p:=⟨w.heap.size,0,none⟩) hgl).trans hbox;have hgl1:w.heap.size<w1.heap.size:=by have:=hb1.size; omega
    have HB1:=Lib.hid hb;have hm1:(j+1) % n<n:=Nat.mod_lt _ (by omega);obtain ⟨x0,x1⟩:=ptCells (fun i hi=>(hb.cell (by exact hbB)).trans (HC.out i hi)) hlt;obtain ⟨y0,y1⟩:=ptCells (fun i hi=>(hb.cell (by exact hbB)).trans (HC.out i hi)) hm1;have hz1:=hb.size;clear hb hb1 hbox hgl r0;have r1:Int.tmod ((j:Int)+1) (n:Int)=(((j+1) % n:Nat):Int):=rem_nat (j+1) n;have hpk:=HPT.out j hlt;have hp1:=HPT.out _ hm1;have HST:=Lib.hid (show overTo facX zs n (j+1)=overTo facX zs n j+part facX zs j ((j+1) % n) from rfl);have hb0:=HBD.out j (by omega);unfold ptA at hpk hp1;have hcr:=crossI_bd hpk hp1;have HPB:=part_bd facX_ok (zs:=zs) (i:=j) (j:=(j+1) % n) hpk hp1;have hx1:=facX_ok _ _ _ _ hpk hp1;rw [part_facX] at HST HPB;unfold facX at hx1;generalize (j+1) % n=j1 at *
    generalize overTo facX zs n j=S at *
    have i1:IntKind.i64.wrap ((j:Int)+1)=(j:Int)+1:=IntWalk.i64_in _ (by omega);have i3:IntKind.i64.wrap (j1:Int)=(j1:Int):=IntWalk.i64_in _ (by omega);have i6:(j1:Int)<(n:Int):=by omega
    have i8:¬ n=0:=by omega
    have i9:¬ (n:Int)=0:=by omega
    have i10:((n:Int) == 0)=false:=by simp; omega
    have i11:(0:Int)≤(j:Int):=by omega
    have i12:(0:Int)≤(j1:Int):=by omega
    have e4:IntKind.i64.wrap (nth zs (j*2)+nth zs (j1*2))=nth zs (j*2)+nth zs (j1*2):=IntWalk.i64_in _ (by omega);have z0:(w1.alloc (.cells #[.int .i64 (nth zs (j*2)),.int .i64 (nth zs (j*2+1))] 43)).cell? ⟨w.heap.size,0,none⟩=some (.slice (some ⟨b,off,none⟩) n c):=(cell_alloc_lt' (by omega)).trans hbox1;have z1:(w1.alloc (.cells #[.int .i64 (nth zs (j*2)),.int .i64 (nth zs (j*2+1))] 43)).cell? ⟨b,off+j1*2,none⟩=some (.int .i64 (nth zs (j1*2))):=(cell_alloc_lt' (by omega)).trans y0;have z2:(w1.alloc (.cells #[.int .i64 (nth zs (j*2)),.int .i64 (nth zs (j*2+1))] 43)).cell? ⟨b,off+j1*2+1,none⟩=some (.int .i64 (nth zs (j1*2+1))):=(cell_alloc_lt' (by omega)).trans y1;have HB2:=Lib.hid ((HB1.out.alloc hz1 (.cells #[.int .i64 (nth zs (j*2)),.int .i64 (nth zs (j*2+1))] 43)).drew.alloc (by simp; omega) (.cells #[.int .i64 (nth zs (j1*2)),.int .i64 (nth zs (j1*2+1))] 43))
    have HXA:Hid (Two ((w1.alloc (.cells #[.int .i64 (nth zs (j*2)),.int .i64 (nth zs (j*2+1))] 43)).drew.alloc (.cells #[.int .i64 (nth zs (j1*2)),.int .i64 (nth zs (j1*2+1))] 43)) w1.heap.size (.int .i64 (nth zs (j*2))) (.int .i64 (nth zs (j*2+1))) ∧
      Two ((w1.alloc (.cells #[.int .i64 (nth zs (j*2)),.int .i64 (nth zs (j*2+1))] 43)).drew.alloc (.cells #[.int .i64 (nth zs (j1*2)),.int .i64 (nth zs (j1*2+1))] 43)) (w1.heap.size+1) (.int .i64 (nth zs (j1*2))) (.int .i64 (nth zs (j1*2+1)))):=by
     have h:=Two.new (w1.alloc (.cells #[.int .i64 (nth zs (j*2)),.int .i64 (nth zs (j*2+1))] 43)).drew (.int .i64 (nth zs (j1*2))) (.int .i64 (nth zs (j1*2+1))) 43;rw [World.size_drew,World.size_alloc] at h;exact ⟨(show Two (w1.alloc _).drew _ _ _ from Two.new w1 _ _ _).alloc _,h⟩
    have hbx7:((w1.alloc (.cells #[.int .i64 (nth zs (j*2)),.int .i64 (nth zs (j*2+1))] 43)).drew.alloc (.cells #[.int .i64 (nth zs (j1*2)),.int .i64 (nth zs (j1*2+1))] 43)).cell? ⟨w.heap.size,0,none⟩=some (.slice (some ⟨b,off,none⟩) n c):=(cell_alloc_lt' (by simp; omega)).trans z0
    clear y0 y1 HB1;have e6:IntKind.i64.wrap ((nth zs (j*2)+nth zs (j1*2))*crossI (nth zs (j*2)) (nth zs (j*2+1)) (nth zs (j1*2)) (nth zs (j1*2+1)))=(nth zs (j*2)+nth zs (j1*2))*crossI (nth zs (j*2)) (nth zs (j*2+1)) (nth zs (j1*2)) (nth zs (j1*2+1)):=IntWalk.i64_in _ (by omega);have e7:IntKind.i64.wrap (S+(nth zs (j*2)+nth zs (j1*2))*crossI (nth zs (j*2)) (nth zs (j*2+1)) (nth zs (j1*2)) (nth zs (j1*2+1)))=S+(nth zs (j*2)+nth zs (j1*2))*crossI (nth zs (j*2)) (nth zs (j*2+1)) (nth zs (j1*2)) (nth zs (j1*2+1)):=IntWalk.i64_in _ (by omega);clear HPB hx1 hcr hb0;go_wp2;go_region_held3 (fun w'=>w'.cell? ⟨w.heap.size,0,none⟩=some (.slice (some ⟨b,off,none⟩) n c)∧w'.cell? ⟨b,off+j1*2,none⟩=some (.int .i64 (nth zs (j1*2)))∧w'.cell? ⟨b,off+j1*2+1,none⟩=some (.int .i64 (nth zs (j1*2+1))))
     (first | exact ⟨z0,z1,z2⟩ | exact ⟨(cell_alloc_lt' (by simp; omega)).trans z0,(cell_alloc_lt' (by simp; omega)).trans z1,(cell_alloc_lt' (by simp; omega)).trans z2⟩) (fail)
    clear z0 z1 z2 x0 x1;have a0:=HXA.out.1.1;have a1:=HXA.out.1.2.1;have b0:=HXA.out.2.1;have b1:=HXA.out.2.2.1;go_wp2;go_region_held3 (fun w'=>w'.cell? ⟨w1.heap.size,0,none⟩=some (.int .i64 (nth zs (j*2)))∧w'.cell? ⟨w1.heap.size,1,none⟩=some (.int .i64 (nth zs (j*2+1)))∧w'.cell? ⟨w1.heap.size+1,0,none⟩=some (.int .i64 (nth zs (j1*2)))∧w'.cell? ⟨w1.heap.size+1,1,none⟩=some (.int .i64 (nth zs (j1*2+1))))
     (first | exact ⟨a0,a1,b0,b1⟩ | exact ⟨(hcc _ _ (by first | (simp; done) | (simp; omega))).trans a0,(hcc _ _ (by first | (simp; done) | (simp; omega))).trans a1,(hcc _ _ (by first | (simp; done) | (simp; omega))).trans b0,(hcc _ _ (by first | (simp; done) | (simp; omega))).trans b1⟩)
     ((go_at_call 152; refine (l04Cross_any _ _ _ _ _ hpk hp1).mono ?_; rintro e w2 ⟨rfl,hb2⟩; obtain ⟨hcc,hff⟩:=bcell hb2))
    have HB3:=Lib.hid (HB2.out.drew.trans (hb2.mono (by simp; omega)))
    have hbox2:=(hb2.cell (p:=⟨w.heap.size,0,none⟩) (by simp; omega)).trans hbx7
    clear hcc hff hb2 a0 a1 b0 b1 hbx7;go_wp2;go_roundw
    case rel=>exact ⟨j+1,by omega,by go_num,by rw [HST.out],hbox2,HB3.out⟩
    case measure=>first | (simp [intOf]; done) | (simp [intOf]; omega)
   ·obtain rfl:j=n:=by omega
    clear hb;go_wp2;go_ret;exact ⟨ret_int HT.out.symm,HB.out⟩
end X
section
open Go.RowKit
theorem OwnR.weaken {w:World} {base base':Nat} {E:TypeId} {K n:Nat} {v:Value} {xs:List Int} (h:OwnR w base E K v n xs) (hb:base'≤base):OwnR w base' E K v n xs:=by
 refine ⟨⟨h.1.1,?_⟩,h.2⟩;rcases h.1.2 with h2 | ⟨g,cap,cur,h1,h2,h3⟩
 ·exact .inl h2
 ·exact .inr ⟨g,cap,cur,h1,Nat.le_trans hb h2,h3⟩
theorem OwnR.set2 {w:World} {base:Nat} {E:TypeId} {K n:Nat} {v:Value} {xs:List Int} (h:OwnR w base E K v n xs) (p q:Addr) (x y:Value) (hp:p.block<base) (hq:q.block<base):OwnR ((w.setCell p x).setCell q y) base E K v n xs:=by
 refine ⟨⟨h.1.1,?_⟩,h.2⟩;rcases h.1.2 with h2 | ⟨g,cap,cur,h1,h2,h3,hr⟩
 ·exact .inl h2
 ·refine .inr ⟨g,cap,cur,h1,h2,?_,hr⟩
  rw [Below.heap_setCell _ q y g (by omega),Below.heap_setCell _ p x g (by omega)];exact h3
theorem OwnR.ints {w:World} {base:Nat} {E:TypeId} {A:Option Addr} {n c:Nat} {xs:List Int} (h:OwnR w base E 1 (.slice A n c) n xs):IntsAt w w.heap.size A n xs:=by
 have hr:=h.recs;refine ⟨by rw [hr.1,Nat.mul_one],fun hn => ?_⟩;obtain ⟨b,off,e,hb,hc⟩:=hr.2 hn;exact ⟨b,off,e,hb,fun k hk=>hc k (by omega)⟩
end
namespace X
open Go.RowKit
def lwL (zs ls:List Int) (q k:Nat):List Int:=(List.range k).map (leftW zs ls q)
def lmL (zs ls:List Int) (q k:Nat):List Int:=(List.range k).map (leftM zs ls q)
structure LRel (w:World) (zs ls:List Int) (q j:Nat) (va:Value) (v6 v7:Value) (wr:World):Prop where
 ws:OwnR wr (w.heap.size+1) 3 1 v6 j (lwL zs ls q j)
 ms:OwnR wr (w.heap.size+1) 3 1 v7 j (lmL zs ls q j)
 apart:ApartV v6 v7
 box:RowF wr w.heap.size 26 1 (fun _=>va)
 below:Below w.heap.size w wr
theorem LRel.after {w wr w':World} {zs ls:List Int} {q j:Nat} {va v6 v7:Value} (h:LRel w zs ls q j va v6 v7 wr) (hb:Below wr.heap.size wr w'):LRel w zs ls q j va v6 v7 w' :=
 ⟨h.ws.below hb,h.ms.below hb,h.apart,h.box.after hb,h.below.trans (hb.mono h.below.size)⟩
theorem LRel.drew {w wr:World} {zs ls:List Int} {q j:Nat} {va v6 v7:Value} (h:LRel w zs ls q j va v6 v7 wr):LRel w zs ls q j va v6 v7 wr.drew:=⟨h.ws,h.ms,h.apart,h.box.drew,below_drewN h.below 1⟩
end X
end Go.Proofs.YtpblihmhpalkfaaGreat
