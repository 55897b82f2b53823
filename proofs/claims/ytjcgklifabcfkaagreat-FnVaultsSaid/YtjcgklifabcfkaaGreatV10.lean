/-
  Texts that the law stands on, part 10.
-/
import Derived.Test.YtjcgklifabcfkaaGreatV1
import Derived.Test.YtjcgklifabcfkaaGreatV9
import Derived.Test.YtjcgklifabcfkaaGreatProg
import Derived.WalkKit
import Derived.Outline
import Derived.Deep.RegionHeld3
import Derived.Deep.QuietTactic
import Derived.BigQuiet
import Derived.BigRegion
import Derived.IntWalk
import Derived.Conc.WrSpec
set_option maxRecDepth 100000
set_option linter.unusedVariables false
set_option linter.unusedSimpArgs false
namespace Go.Proofs.YtjcgklifabcfkaaGreat
section
open Go.RowKit
structure Only (g:Nat) (w w':World):Prop where
 os:w'.os=w.os
 tape:w'.tape=w.tape
 output:w'.output=w.output
 size:w'.heap.size=w.heap.size
 block:∀ k,k ≠ g→w'.heap[k]?=w.heap[k]?
section
variable {g : Nat} {w w' w'' : World}
theorem Only.refl (g:Nat) (w:World):Only g w w:=⟨rfl,rfl,rfl,rfl,fun _ _=>rfl⟩
theorem Only.trans (h:Only g w w') (h':Only g w' w''):Only g w w'':=⟨h'.os.trans h.os,h'.tape.trans h.tape,h'.output.trans h.output,h'.size.trans h.size,fun k hk=>(h'.block k hk).trans (h.block k hk)⟩
theorem Only.setCell (h:Only g w w') (i:Nat) (u:Value):Only g w (w'.setCell ⟨g,i,none⟩ u) :=
 h.trans ⟨rfl,rfl,rfl,by simp [World.setCell],fun k hk=>Below.heap_setCell w' ⟨g,i,none⟩ u k hk⟩
theorem Only.below {B:Nat} (h:Only g w w') (hB:B≤g):Below B w w':=⟨h.os,h.tape,h.output,by rw [h.size]; exact Nat.le_refl _,fun k hk=>h.block k (by omega)⟩
theorem Only.cell (h:Only g w w') {p:Addr} (hp:p.block ≠ g):w'.cell? p=w.cell? p:=World.cell?_of_block (w:=w) (h.block _ hp)
theorem Only.ints {B n:Nat} {A:Option Addr} {zs:List Int} (h:Only g w w') (hi:IntsAt w B A n zs) (hA:∀ b off,A=some ⟨b,off,none⟩→b ≠ g):IntsAt w' B A n zs :=
 ⟨hi.1,fun hn=>by
  obtain ⟨b,off,e,hb,hc⟩:=hi.2 hn;exact ⟨b,off,e,hb,fun k hk=>(h.cell (p:=⟨b,off+k,none⟩) (hA b off e)).trans (hc k hk)⟩⟩
theorem Only.recs {B n K:Nat} {A:Option Addr} {zs:List Int} (h:Only g w w') (hi:RecsAt w B K A n zs) (hA:∀ b off,A=some ⟨b,off,none⟩→b ≠ g):RecsAt w' B K A n zs :=
 ⟨hi.1,fun hn=>by
  obtain ⟨b,off,e,hb,hc⟩:=hi.2 hn;exact ⟨b,off,e,hb,fun k hk=>(h.cell (p:=⟨b,off+k,none⟩) (hA b off e)).trans (hc k hk)⟩⟩
theorem Only.row {g':Nat} {t:TypeId} {n:Nat} {f:Nat→Value} (h:Only g w w') (hr:w.rowIs g' t n f) (hne:g' ≠ g):w'.rowIs g' t n f:=hr.of_block (h.block g' hne)
theorem Only.own {base:Nat} {E:TypeId} {v:Value} {xs:List Int} (h:Only g w w') (ho:OwnV w base E v xs) (hne:v.ownBlock ≠ some g):OwnV w' base E v xs:=by
 rcases ho.form with ⟨rfl,rfl⟩ | ⟨g',cap,rfl,hi⟩
 ·exact OwnV.nil _ _ _
 ·refine ⟨hi.1,?_⟩
  rcases hi.2 with h2 | ⟨g'',cap',cur,h1,h2,h3,hr⟩
  ·exact .inl h2
  ·simp at h1
   obtain ⟨rfl,rfl⟩:=h1;exact .inr ⟨g',cap,cur,rfl,h2,(h.block g' (fun e=>hne (by simp [Value.ownBlock,e]))).trans h3,hr⟩
end
def ints (zs:List Int) (j:Nat):Value := .int .i64 (nth zs j)
theorem ints_def (zs:List Int) (j:Nat):ints zs j = .int .i64 (nth zs j):=rfl
def fill (zs:List Int) (k j:Nat):Value := .int .i64 (if j<k then nth zs j else 0)
theorem fill_0 (zs:List Int) (j:Nat):fill zs 0 j = .int .i64 0:=by simp [fill]
theorem fill_end (zs:List Int) {k j:Nat} (h:j<k):fill zs k j=ints zs j:=by simp [fill,ints,h]
theorem fill_step2 (zs:List Int) (i j:Nat):(if j=i+1 then Value.int .i64 (nth zs (i+1)) else if j=i then Value.int .i64 (nth zs i) else fill zs i j)=fill zs (i+2) j:=by
 unfold fill;by_cases h1:j=i+1
 ·subst h1; simp
 ·by_cases h0:j=i
  ·subst h0; simp
  ·by_cases h:j<i
   ·simp [h1,h0,h,show j<i+2 by omega]
   ·simp [h1,h0,h,show ¬ j<i+2 by omega]
theorem run_make_recs {P:Program} (t E:TypeId) (K bytes:Nat) (zc:Array Value) (ht:P.underlying t=some (.slice E)) (hinfo:(P.info? E).map (fun i=>(i.zero,i.size,i.bytes))=some (some (.agg zc),K,bytes)) (n:Nat) (hb:bytes*n≤281474976710656) (hn:n≤1048576) (w:World) :
  (Instr.makeSlice t (.int .i64 (n:Int)) (.int .i64 (n:Int))).run P w = .ok (.slice (some ⟨w.heap.size,0,none⟩) n n) (w.alloc (.cells (madeCells zc (n*K)) E)):=by
 obtain ⟨i0,hi0,hz0,hz1,hz2⟩:=info_parts hinfo;have hb':(i0.bytes:Int)*(n:Int)≤281474976710656:=by
  have h:((i0.bytes*n:Nat):Int)≤281474976710656:=by rw [hz2]; omega
  rwa [Int.natCast_mul] at h
 have h:=run_make (P:=P) w t E i0 (.agg zc) ht hi0 hz0 .i64 .i64 (n:Int) (n:Int) (by omega) (by omega) hb' (by omega);simpa [hz1,Value.cells] using h
theorem rowIs_made0 (w:World) (zc:Array Value) (E:TypeId) (m:Nat) (hz:∀ j,j<zc.size→zc[j]?=some (.int .i64 0)) (h0:0<zc.size) (zs:List Int):(w.alloc (.cells (madeCells zc m) E)).rowIs w.heap.size E m (fill zs 0):=by
 have hr:=World.rowIs_alloc w (madeCells zc m) E (fill zs 0) (fun j hj=>by
  have hj':j<m:=by simpa [size_madeCells] using hj
  have hm:j % zc.size<zc.size:=Nat.mod_lt _ h0;have hzz:=hz _ hm;rw [fill_0];have e:zc[j % zc.size]! = .int .i64 0:=by
   rw [getElem!_def,hzz]
  simp [madeCells,hj',e])
 simpa [size_madeCells] using hr
end
section
open Go.RowKit
def ptB (x y:Int):Bool:=inB x (-60) 60 && inB y (-60) 60
theorem ptB_iff {x y:Int}:ptB x y=true ↔ (-60≤x∧x≤60)∧(-60≤y∧y≤60):=by simp [ptB,inB_iff]
def sideI (ax ay bx b_y cx cy:Int):Int:=(bx - ax)*(cy - ay) - (b_y - ay)*(cx - ax)
theorem mul_bd {a b m n:Int} (ha : -m≤a∧a≤m) (hb : -n≤b∧b≤n) : -(m*n)≤a*b∧a*b≤m*n:=by
 have h1:(m - a)*(n - b) ≥ 0:=Int.mul_nonneg (by omega) (by omega);have h2:(m+a)*(n+b) ≥ 0:=Int.mul_nonneg (by omega) (by omega);have h3:(m - a)*(n+b) ≥ 0:=Int.mul_nonneg (by omega) (by omega);have h4:(m+a)*(n - b) ≥ 0:=Int.mul_nonneg (by omega) (by omega);simp only [Int.sub_mul,Int.mul_sub,Int.add_mul,Int.mul_add] at h1 h2 h3 h4;omega
theorem mul120 {a b:Int} (ha : -120≤a∧a≤120) (hb : -120≤b∧b≤120) : -14400≤a*b∧a*b≤14400:=by
 have:=mul_bd (m:=120) (n:=120) ha hb;omega
theorem sideI_bd {ax ay bx b_y cx cy:Int} (ha:ptB ax ay=true) (hb:ptB bx b_y=true) (hc:ptB cx cy=true) : -28800≤sideI ax ay bx b_y cx cy∧sideI ax ay bx b_y cx cy≤28800:=by
 rw [ptB_iff] at ha hb hc;have h1:=mul120 (a:=bx - ax) (b:=cy - ay) (by omega) (by omega);have h2:=mul120 (a:=b_y - ay) (b:=cx - ax) (by omega) (by omega);unfold sideI;omega
def ptA (zs:List Int) (k:Nat):Bool:=ptB (nth zs (k*2)) (nth zs (k*2+1))
def sd (zs:List Int) (i j k:Nat):Int:=sideI (nth zs (i*2)) (nth zs (i*2+1)) (nth zs (j*2)) (nth zs (j*2+1)) (nth zs (k*2)) (nth zs (k*2+1))
theorem sd_self (zs:List Int) (k:Nat):sd zs 0 0 k=0:=by simp [sd,sideI]
def ptsTo (zs:List Int) (k:Nat):Prop:=∀ i,i<k→ptA zs i=true
theorem ptsTo_0 (zs:List Int):ptsTo zs 0:=fun i hi=>absurd hi (by omega)
theorem ptsTo_step {zs:List Int} {k:Nat} (h:ptsTo zs k) (e:ptA zs k=true):ptsTo zs (k+1):=by
 intro i hi;by_cases hik:i=k
 ·subst hik; exact e
 ·exact h i (by omega)
def turnB (zs:List Int) (n k:Nat):Bool:=decide (0<sd zs k ((k+1) % n) ((k+2) % n)) && (if k+1<n then decide (0≤sd zs 0 k (k+1)) else true)
def turnTo (zs:List Int) (n k:Nat):Prop:=∀ i,i<k→turnB zs n i=true
theorem turnTo_0 (zs:List Int) (n:Nat):turnTo zs n 0:=fun i hi=>absurd hi (by omega)
theorem turnTo_step {zs:List Int} {n k:Nat} (h:turnTo zs n k) (e:turnB zs n k=true):turnTo zs n (k+1):=by
 intro i hi;by_cases hik:i=k
 ·subst hik; exact e
 ·exact h i (by omega)
def stoneB (zs:List Int) (n:Nat):Bool:=inB (n:Int) 3 6 && ((List.range n).all (ptA zs) && (List.range n).all (turnB zs n))
theorem stoneB_f1 {zs:List Int} {n:Nat} (h:inB (n:Int) 3 6=false):stoneB zs n=false:=by simp [stoneB,h]
theorem stoneB_f2 {zs:List Int} {n k:Nat} (hk:k<n) (h:ptA zs k=false):stoneB zs n=false:=by
 have:(List.range n).all (ptA zs)=false:=by
  rw [List.all_eq_false];exact ⟨k,by simpa using hk,by simp [h]⟩
 simp [stoneB,this]
theorem stoneB_f3 {zs:List Int} {n k:Nat} (hk:k<n) (h:turnB zs n k=false):stoneB zs n=false:=by
 have:(List.range n).all (turnB zs n)=false:=by
  rw [List.all_eq_false];exact ⟨k,by simpa using hk,by simp [h]⟩
 simp [stoneB,this]
theorem stoneB_t {zs:List Int} {n:Nat} (h1:inB (n:Int) 3 6=true) (h2:ptsTo zs n) (h3:turnTo zs n n):stoneB zs n=true:=by
 have e2:(List.range n).all (ptA zs)=true:=by
  rw [List.all_eq_true];exact fun i hi=>h2 i (by simpa using hi)
 have e3:(List.range n).all (turnB zs n)=true:=by
  rw [List.all_eq_true];exact fun i hi=>h3 i (by simpa using hi)
 simp [stoneB,h1,e2,e3]
theorem stoneB_out {zs:List Int} {n:Nat} (h:stoneB zs n=true):(3≤n∧n≤6)∧ptsTo zs n∧turnTo zs n n:=by
 simp only [stoneB,Bool.and_eq_true,inB_iff,List.all_eq_true] at h;exact ⟨by omega,fun i hi=>h.2.1 i (by simpa using hi),fun i hi=>h.2.2 i (by simpa using hi)⟩
theorem turnB_f1 {zs:List Int} {n k:Nat} (h:sd zs k ((k+1) % n) ((k+2) % n)≤0):turnB zs n k=false:=by
 have:decide (0<sd zs k ((k+1) % n) ((k+2) % n))=false:=decide_eq_false (by omega);simp [turnB,this]
theorem turnB_f2 {zs:List Int} {n k:Nat} (hk:k+1<n) (h:sd zs 0 k (k+1)<0):turnB zs n k=false:=by
 have:decide (0≤sd zs 0 k (k+1))=false:=decide_eq_false (by omega);simp [turnB,this,hk]
theorem turnB_t1 {zs:List Int} {n k:Nat} (h:0<sd zs k ((k+1) % n) ((k+2) % n)) (hk:¬ k+1<n):turnB zs n k=true:=by
 simp [turnB,h,hk]
theorem turnB_t2 {zs:List Int} {n k:Nat} (h:0<sd zs k ((k+1) % n) ((k+2) % n)) (hk:k+1<n) (h2:0≤sd zs 0 k (k+1)):turnB zs n k=true:=by
 simp [turnB,h,hk,h2]
end
section
open Go.RowKit
theorem within_any (x a b:Int) (w:World):Calls Tryz.prog 43 #[.int .i64 x,.int .i64 a,.int .i64 b] w fun e w'=>e = .returned (.bool (inB x a b))∧w=w':=by
 by_cases c1:a≤x
 ·by_cases c2:x≤b
  ·have H:=Lib.hid (inB_t ⟨c1,c2⟩)
   go_enter Tryz.func43,Tryz.ntmps43;go_wp2;go_ret;exact ⟨ret_bool H.out.symm,rfl⟩
  ·have H:=Lib.hid (inB_f (x:=x) (a:=a) (b:=b) (by omega))
   go_enter Tryz.func43,Tryz.ntmps43;go_wp2;go_ret;exact ⟨ret_bool H.out.symm,rfl⟩
 ·have H:=Lib.hid (inB_f (x:=x) (a:=a) (b:=b) (by omega))
  go_enter Tryz.func43,Tryz.ntmps43;go_wp2;go_ret;exact ⟨ret_bool H.out.symm,rfl⟩
end
section
open Go.RowKit
def RowF (w:World) (g:Nat) (E:TypeId) (m:Nat) (f:Nat→Value):Prop :=
 ∃ c:Array Value,w.heap[g]?=some (.cells c E (0,0))∧m≤c.size∧∀ i,i<m→c[i]?=some (f i)
section
variable {w w' : World} {g : Nat} {E : TypeId} {m : Nat} {f f' : Nat → Value}
theorem RowF.of_row (h:w.rowIs g E m f):RowF w g E m f:=by
 obtain ⟨c,hb,hn,hc⟩:=h;exact ⟨c,hb,by omega,hc⟩
theorem RowF.cell (h:RowF w g E m f) {i:Nat} (hi:i<m):w.cell? ⟨g,i,none⟩=some (f i):=by
 obtain ⟨c,hb,_,hc⟩:=h;simp [World.cell?,hb,hc i hi]
theorem RowF.frozen (h:RowF w g E m f) (i:Nat):w.frozen? ⟨g,i,none⟩=false:=by
 obtain ⟨c,hb,_,_⟩:=h;simp [World.frozen?,hb]
theorem RowF.lt (h:RowF w g E m f):g<w.heap.size:=by
 obtain ⟨c,hb,_,_⟩:=h;obtain ⟨hlt,_⟩:=Array.getElem?_eq_some_iff.1 hb;exact hlt
theorem RowF.congr (h:RowF w g E m f) (e:∀ i,i<m→f i=f' i):RowF w g E m f':=by
 obtain ⟨c,hb,hn,hc⟩:=h;exact ⟨c,hb,hn,fun i hi=>by rw [hc i hi,e i hi]⟩
theorem RowF.of_block (h:RowF w g E m f) (e:w'.heap[g]?=w.heap[g]?):RowF w' g E m f:=by
 obtain ⟨c,hb,hn,hc⟩:=h;exact ⟨c,e.trans hb,hn,hc⟩
theorem RowF.set (h:RowF w g E m f) (i:Nat) (v:Value):RowF (w.setCell ⟨g,i,none⟩ v) g E m (fun j=>if j=i then v else f j):=by
 obtain ⟨c,hb,hn,hc⟩:=h;refine ⟨c.setIfInBounds i v,?_,by simpa using hn,fun j hj => ?_⟩
 ·simp [World.setCell,Array.getElem?_modify,hb]
 ·rw [Array.getElem?_setIfInBounds]
  by_cases e:j=i
  ·subst e
   have:j<c.size:=by omega
   simp [this]
  ·rw [if_neg (fun h=>e h.symm)]
   show c[j]?=some (if j=i then v else f j)
   rw [if_neg e];exact hc j hj
theorem RowF.drewN (h:RowF w g E m f) (k:Nat):RowF (w.drewN k) g E m f:=h
theorem RowF.drew (h:RowF w g E m f):RowF w.drew g E m f:=h
theorem RowF.alloc (h:RowF w g E m f) (o:Obj):RowF (w.alloc o) g E m f:=h.of_block (Below.heap_alloc w o g h.lt)
theorem RowF.below {B:Nat} (h:RowF w g E m f) (hb:Below B w w') (hg:g<B):RowF w' g E m f:=h.of_block (hb.block g hg)
theorem RowF.after (h:RowF w g E m f) (hb:Below w.heap.size w w'):RowF w' g E m f:=h.of_block (hb.block g h.lt)
theorem RowF.recs {K n:Nat} {zs:List Int} (h:RowF w g E (n*K) (ints zs)) (hz:zs.length=n*K):RecsAt w w.heap.size K (some ⟨g,0,none⟩) n zs :=
 ⟨hz,fun _=>⟨g,0,rfl,h.lt,fun i hi=>by rw [Nat.zero_add]; exact h.cell hi⟩⟩
theorem RowF.only {g':Nat} (h:RowF w g E m f) (ho:Only g' w w') (hne:g ≠ g'):RowF w' g E m f:=h.of_block (ho.block g hne)
theorem RowF.set_other (h:RowF w g E m f) {p:Addr} (hp:g ≠ p.block) (v:Value):RowF (w.setCell p v) g E m f:=h.of_block (Below.heap_setCell w p v g hp)
end
end
section
open Go.RowKit
theorem cell_alloc_lt {w:World} {o:Obj} {g i:Nat} (h:g<w.heap.size):(w.alloc o).cell? ⟨g,i,none⟩=w.cell? ⟨g,i,none⟩:=World.cell?_of_block (a:=⟨g,i,none⟩) (Below.heap_alloc w o g h)
end
section
def allTo (p:Nat→Bool) (k:Nat):Prop:=∀ i,i<k→p i=true
def allB (p:Nat→Bool) (n:Nat):Bool:=(List.range n).all p
section
variable {p : Nat → Bool} {k n : Nat}
theorem allTo_0 (p:Nat→Bool):allTo p 0:=fun i hi=>absurd hi (by omega)
theorem allTo_step (h:allTo p k) (e:p k=true):allTo p (k+1):=by
 intro i hi;by_cases hik:i=k
 ·subst hik; exact e
 ·exact h i (by omega)
theorem allB_f (hk:k<n) (h:p k=false):allB p n=false:=by
 rw [allB,List.all_eq_false];exact ⟨k,by simpa using hk,by simp [h]⟩
theorem allB_t (h:allTo p n):allB p n=true:=by
 rw [allB,List.all_eq_true];exact fun i hi=>h i (by simpa using hi)
theorem allB_out (h:allB p n=true):allTo p n:=by
 simp only [allB,List.all_eq_true] at h;exact fun i hi=>h i (by simpa using hi)
end
end
section
open Go.RowKit
def loadAt (ls:List Int) (n i:Nat):Bool:=inB (nth ls (i*3)) 0 ((n:Int) - 2) && (inB (nth ls (i*3+1)) 0 10000 && inB (nth ls (i*3+2)) (-60) 60)
end
section
def crossI (ax ay bx b_y:Int):Int:=ax*b_y - ay*bx
theorem crossI_bd {ax ay bx b_y:Int} (ha:ptB ax ay=true) (hb:ptB bx b_y=true) : -7200≤crossI ax ay bx b_y∧crossI ax ay bx b_y≤7200:=by
 rw [ptB_iff] at ha hb;have h1:=mul_bd (m:=60) (n:=60) (a:=ax) (b:=b_y) (by omega) (by omega);have h2:=mul_bd (m:=60) (n:=60) (a:=ay) (b:=bx) (by omega) (by omega);unfold crossI;omega
abbrev Fac:=Int→Int→Int→Int→Int
def FacOk (F:Fac):Prop:=∀ ax ay bx b_y,ptB ax ay=true→ptB bx b_y=true → -120≤F ax ay bx b_y∧F ax ay bx b_y≤120
def facOne:Fac:=fun _ _ _ _=>1
def facX:Fac:=fun ax _ bx _=>ax+bx
theorem facOne_ok:FacOk facOne:=fun _ _ _ _ _ _=>by simp [facOne]
theorem facX_ok:FacOk facX:=fun ax ay bx b_y ha hb=>by rw [ptB_iff] at ha hb; unfold facX; omega
def part (F:Fac) (zs:List Int) (i j:Nat):Int:=F (nth zs (i*2)) (nth zs (i*2+1)) (nth zs (j*2)) (nth zs (j*2+1))*crossI (nth zs (i*2)) (nth zs (i*2+1)) (nth zs (j*2)) (nth zs (j*2+1))
theorem part_bd {F:Fac} (hF:FacOk F) {zs:List Int} {i j:Nat} (hi:ptA zs i=true) (hj:ptA zs j=true) : -864000≤part F zs i j∧part F zs i j≤864000:=by
 unfold ptA at hi hj;have h1:=hF _ _ _ _ hi hj;have h2:=crossI_bd hi hj;have:=mul_bd (m:=120) (n:=7200) h1 h2;unfold part;omega
def overTo (F:Fac) (zs:List Int) (n:Nat):Nat→Int
 | 0=>0
 | k+1=>overTo F zs n k+part F zs k ((k+1) % n)
theorem overTo_bd {F:Fac} (hF:FacOk F) {zs:List Int} {n:Nat} (hp:ptsTo zs n):∀ k,k≤n → -(864000*(k:Int))≤overTo F zs n k∧overTo F zs n k≤864000*(k:Int)
 | 0,_=>by simp [overTo]
 | k+1,hk=>by
  have ih:=overTo_bd hF hp k (by omega);have h:=part_bd hF (hp k (by omega)) (hp ((k+1) % n) (Nat.mod_lt _ (by omega)));simp only [overTo];omega
def overI (F:Fac) (zs:List Int) (n:Nat):Int:=if stoneB zs n=true then overTo F zs n n else 0
theorem overI_t {F:Fac} {zs:List Int} {n:Nat} (h:stoneB zs n=true):overI F zs n=overTo F zs n n:=by simp [overI,h]
theorem overI_f {F:Fac} {zs:List Int} {n:Nat} (h:stoneB zs n=false):overI F zs n=0:=by simp [overI,h]
theorem overI_bd {F:Fac} (hF:FacOk F) (zs:List Int) (n:Nat) : -5184000≤overI F zs n∧overI F zs n≤5184000:=by
 cases h:stoneB zs n
 ·rw [overI_f h]; omega
 ·have ho:=stoneB_out h
  rw [overI_t h];have:=overTo_bd hF ho.2.1 n (Nat.le_refl _);have:=ho.1;omega
def weightI (zs:List Int) (n:Nat):Int:=3*overI facOne zs n
theorem part_one (zs:List Int) (i j:Nat):part facOne zs i j=crossI (nth zs (i*2)) (nth zs (i*2+1)) (nth zs (j*2)) (nth zs (j*2+1)):=by simp [part,facOne]
theorem areaTo_bd {zs:List Int} {n:Nat} (hp:ptsTo zs n):∀ k,k≤n → -(7200*(k:Int))≤overTo facOne zs n k∧overTo facOne zs n k≤7200*(k:Int)
 | 0,_=>by simp [overTo]
 | k+1,hk=>by
  have ih:=areaTo_bd hp k (by omega);have h1:=hp k (by omega);have h2:=hp ((k+1) % n) (Nat.mod_lt _ (by omega));unfold ptA at h1 h2;have h:=crossI_bd h1 h2;simp only [overTo,part_one];omega
theorem weightI_bd (zs:List Int) (n:Nat) : -129600≤weightI zs n∧weightI zs n≤129600:=by
 unfold weightI;cases h:stoneB zs n
 ·rw [overI_f h]; omega
 ·have ho:=stoneB_out h
  rw [overI_t h];have:=areaTo_bd ho.2.1 n (Nat.le_refl _);have:=ho.1;omega
end
section
open Go.RowKit
def gcdTo (L:List Int):Nat→Nat
 | 0=>0
 | k+1=>Nat.gcd (gcdTo L k) (nth L k).natAbs
def gcd4 (a b c d:Int):Nat:=Nat.gcd (Nat.gcd a.natAbs b.natAbs) (Nat.gcd c.natAbs d.natAbs)
theorem gcdTo_4 (a b c d:Int):gcdTo [a,b,c,d] 4=gcd4 a b c d:=by
 simp [gcdTo,nth,gcd4,Nat.gcd_assoc]
theorem gcdTo_2 (a b:Int):gcdTo [a,b] 2=Nat.gcd a.natAbs b.natAbs:=by simp [gcdTo,nth]
theorem gcdTo_le {L:List Int} {M:Nat} (h:∀ k,(nth L k).natAbs≤M):∀ k,gcdTo L k≤M
 | 0=>by simp [gcdTo]
 | k+1=>by
  by_cases e:(nth L k).natAbs=0
  ·simp only [gcdTo,e,Nat.gcd_zero_right]
   exact gcdTo_le h k
  ·simp only [gcdTo]
   exact Nat.le_trans (Nat.le_of_dvd (by omega) (Nat.gcd_dvd_right _ _)) (h k)
theorem gcd_round {d m:Nat}:Nat.gcd m (d % m)=Nat.gcd d m:=by
 rw [Nat.gcd_comm d m,Nat.gcd_rec m d,Nat.gcd_comm]
theorem natAbs_tmod (a b:Int):(Int.tmod a b).natAbs=a.natAbs % b.natAbs:=Int.natAbs_tmod a b
theorem gcd_round_i {a b:Int}:Nat.gcd b.natAbs (Int.tmod a b).natAbs=Nat.gcd a.natAbs b.natAbs:=by
 rw [natAbs_tmod];exact gcd_round
theorem gcd4_pos {a b c d:Int} (h:d ≠ 0):0<gcd4 a b c d:=by
 unfold gcd4;refine Nat.pos_of_ne_zero fun e => ?_
 have h1:=(Nat.gcd_eq_zero_iff.1 e).2;have h2:=(Nat.gcd_eq_zero_iff.1 h1).2;omega
def okG (a:Int):Prop := -4000000000000000000≤a∧a≤4000000000000000000
theorem okG_tmod {a b:Int} (hb:b ≠ 0) (h:okG b):okG (Int.tmod a b):=by
 have h1:=natAbs_tmod a b;have h2:=Nat.mod_lt a.natAbs (y:=b.natAbs) (by omega);unfold okG at *
 omega
theorem okG_neg {a:Int} (h:okG a):IntKind.i64.wrap (-a) = -a:=by
 unfold okG at h;exact IntWalk.i64_in _ (by omega)
def okU (n:Nat):Prop:=n≤4000000000000000000
theorem okU_nat {a:Int} (h:okG a):okU a.natAbs:=by unfold okG at h; unfold okU; omega
theorem okU_mod {d m:Nat} (h0:m ≠ 0) (h:okU m):okU (d % m):=by
 have:=Nat.mod_lt d (y:=m) (by omega);unfold okU at *
 omega
theorem okU_gcdTo {L:List Int} (h:∀ k,okG (nth L k)) (k:Nat):okU (gcdTo L k):=gcdTo_le (fun j=>okU_nat (h j)) k
theorem u64_neg {a:Int} (h:okG a) (hn:a<0):IntKind.u64.wrap (-IntKind.u64.wrap a)=(a.natAbs:Int):=by
 unfold okG at h;simp only [IntKind.wrap,IntKind.signed,IntKind.bits];simp;omega
theorem u64_pos {a:Int} (h:okG a) (hn:0≤a):IntKind.u64.wrap a=(a.natAbs:Int):=by
 unfold okG at h;simp only [IntKind.wrap,IntKind.signed,IntKind.bits];simp;omega
theorem u64_to_i64 {n:Nat} (h:okU n):IntKind.i64.wrap (n:Int)=(n:Int):=by
 unfold okU at h;exact IntWalk.i64_in _ (by omega)
theorem tmod_lt {a b:Int} (hb:b ≠ 0):(Int.tmod a b).natAbs<b.natAbs:=by
 rw [natAbs_tmod];exact Nat.mod_lt _ (by omega)
def thrB (H V M D:Int):Bool:=inB D 1 1000000 && (inB H 0 1000000000000 && (inB V (-10000000000000) 10000000000000 && (inB M (-10000000000000) 10000000000000 && decide (gcd4 H V M D=1))))
theorem thrB_1 (H V M:Int) {D:Int} (h:inB D 1 1000000=false):thrB H V M D=false:=by simp [thrB,h]
theorem thrB_2 {H:Int} (V M D:Int) (h:inB H 0 1000000000000=false):thrB H V M D=false:=by simp [thrB,h]
theorem thrB_3 (H:Int) {V:Int} (M D:Int) (h:inB V (-10000000000000) 10000000000000=false):thrB H V M D=false:=by simp [thrB,h]
theorem thrB_4 (H V:Int) {M:Int} (D:Int) (h:inB M (-10000000000000) 10000000000000=false):thrB H V M D=false:=by simp [thrB,h]
theorem thrB_t {H V M D:Int} (h1:inB D 1 1000000=true) (h2:inB H 0 1000000000000=true) (h3:inB V (-10000000000000) 10000000000000=true) (h4:inB M (-10000000000000) 10000000000000=true):thrB H V M D=decide (gcd4 H V M D=1):=by
 simp [thrB,h1,h2,h3,h4]
theorem thrB_out {H V M D:Int} (h:thrB H V M D=true):(1≤D∧D≤1000000)∧(0≤H∧H≤1000000000000)∧(-10000000000000≤V∧V≤10000000000000)∧(-10000000000000≤M∧M≤10000000000000)∧gcd4 H V M D=1:=by
 simp only [thrB,Bool.and_eq_true,inB_iff,decide_eq_true_eq] at h;exact ⟨h.1,h.2.1,h.2.2.1,h.2.2.2.1,h.2.2.2.2⟩
end
section
open Go.RowKit
section
variable {zs : List Int} {W M W' M' : Nat → Int}
end
def rowB (a b c d:Int):Bool:=inB a (-100) 100 && (inB b (-100) 100 && (inB c (-1) 1 && inB d (-1000000000) 1000000000))
theorem rowB_1 {a:Int} (b c d:Int) (h:inB a (-100) 100=false):rowB a b c d=false:=by simp [rowB,h]
theorem rowB_2 (a:Int) {b:Int} (c d:Int) (h:inB b (-100) 100=false):rowB a b c d=false:=by simp [rowB,h]
theorem rowB_3 (a b:Int) {c:Int} (d:Int) (h:inB c (-1) 1=false):rowB a b c d=false:=by simp [rowB,h]
theorem rowB_t {a b c:Int} (d:Int) (h1:inB a (-100) 100=true) (h2:inB b (-100) 100=true) (h3:inB c (-1) 1=true):rowB a b c d=inB d (-1000000000) 1000000000:=by simp [rowB,h1,h2,h3]
theorem rowB_iff {a b c d:Int}:rowB a b c d=true ↔ (-100≤a∧a≤100)∧(-100≤b∧b≤100)∧(-1≤c∧c≤1)∧(-1000000000≤d∧d≤1000000000):=by simp [rowB,inB_iff]
def rowAt (rs:List Int) (i:Nat):Bool:=rowB (nth rs (i*4)) (nth rs (i*4+1)) (nth rs (i*4+2)) (nth rs (i*4+3))
end
section
open Go.RowKit
theorem IntsAt.after {w w1:World} {A:Option Addr} {n:Nat} {zs:List Int} (h:IntsAt w w.heap.size A n zs) (hb:Below w.heap.size w w1):IntsAt w1 w1.heap.size A n zs:=(h.below hb).mono hb.size
end
section
open Go.RowKit
section
variable {w w1 w2 : World}
theorem below_then (h:Below w.heap.size w w1) (h':Below w1.heap.size w1 w2):Below w.heap.size w w2:=h.trans (h'.mono h.size)
def Box (w:World) (b:Nat) (v:Value):Prop:=w.cell? ⟨b,0,none⟩=some v∧b<w.heap.size
theorem Box.after {b:Nat} {v:Value} (h:Box w b v) (hb:Below w.heap.size w w1):Box w1 b v:=⟨(hb.cell (p:=⟨b,0,none⟩) h.2).trans h.1,Nat.lt_of_lt_of_le h.2 hb.size⟩
theorem Box.alloc {b:Nat} {v:Value} (h:Box w b v) (o:Obj):Box (w.alloc o) b v:=h.after ((Below.refl _ _).alloc (Nat.le_refl _) _)
theorem Box.new (w:World) (v:Value) (t:TypeId):Box (w.alloc (.cells #[v] t)) w.heap.size v:=⟨cell_new1 w v t,by simp⟩
theorem Box.drewN {b:Nat} {v:Value} (h:Box w b v) (k:Nat):Box (w.drewN k) b v:=h
def Box2 (w:World) (b:Nat) (u v:Value):Prop:=w.cell? ⟨b,0,none⟩=some u∧w.cell? ⟨b,1,none⟩=some v∧b<w.heap.size
theorem Box2.after {b:Nat} {u v:Value} (h:Box2 w b u v) (hb:Below w.heap.size w w1):Box2 w1 b u v:=⟨(hb.cell (p:=⟨b,0,none⟩) h.2.2).trans h.1,(hb.cell (p:=⟨b,1,none⟩) h.2.2).trans h.2.1,Nat.lt_of_lt_of_le h.2.2 hb.size⟩
theorem Box2.new (w:World) (u v:Value) (t:TypeId):Box2 (w.alloc (.cells #[u,v] t)) w.heap.size u v:=by
 have hr:(w.alloc (.cells #[u,v] t)).rowIs w.heap.size t 2 (fun i=>if i=0 then u else v):=World.rowIs_alloc w #[u,v] t _ (fun i hi=>by simp at hi; match i,hi with | 0,_=>rfl | 1,_=>rfl)
 exact ⟨hr.cell (by omega),hr.cell (by omega),by simp⟩
end
end
section
open Go.RowKit
theorem magnitude_any (a:Int) (w:World) (ha:okG a):Calls Tryz.prog 148 #[.int .i64 a] w fun e w'=>e = .returned (.int .u64 (a.natAbs:Nat))∧w=w':=by
 go_enter Tryz.func148,Tryz.ntmps148;go_wp2;all_goals
  go_ret;first
  | exact ⟨ret_int (u64_neg ha (by assumption)),rfl⟩
  | exact ⟨ret_int (u64_pos ha (by assumption)),rfl⟩
set_option maxHeartbeats 400000 in
theorem commonDivisor_any (A:Option Addr) (n c:Nat) (L:List Int) (w:World) (h:IntsAt w w.heap.size A n L) (hn:n≤1048576) (hL:∀ k,okG (nth L k)) :
  Calls Tryz.prog 113 #[.slice A n c] w fun e w'=>e = .returned (.int .i64 (gcdTo L n:Nat))∧∃ n,w'=w.drewN n:=by
 have H:=Lib.hid h;have HL:=Lib.hid hL;have HGL:Hid (∀ k,okU (gcdTo L k)):=fun k=>okU_gcdTo hL k
 clear h hL;go_enter Tryz.func113,Tryz.ntmps113;go_wp2;go_loopw [3,9] (fun x i wr=>∃ (k:Nat),k≤n∧i = .int .i64 k∧x = .int .u64 (gcdTo L k:Nat)∧Hid (∃ n,wr=w.drewN n)) (fun _ i _=>n - (intOf i).toNat)
 case atStart=>exact ⟨0,Nat.zero_le _,rfl,rfl,Lib.hid ⟨0,rfl⟩⟩
 case round =>
  obtain ⟨k,hk,rfl,rfl,HW⟩:=hrel;by_cases hlt:k<n
  ·obtain ⟨b,off,rfl,hbB,hc⟩:=H.out.2 (by omega)
   have x0:wr.cell? ⟨b,off+k,none⟩=some (.int .i64 (nth L k)):=by
    obtain ⟨n',rfl⟩:=HW.out;exact hc k hlt
   have ho:=HL.out k;have HS:Hid (gcdTo L (k+1)=Nat.gcd (gcdTo L k) (nth L k).natAbs):=rfl;have hu:=HGL.out k;have hm:=okU_nat ho;clear hc;go_wp2_with fail
   refine (magnitude_any _ _ ho).mono ?_;rintro e w' ⟨rfl,rfl⟩;generalize gcdTo L k=d0 at *
   generalize (nth L k).natAbs=m0 at *
   go_wp2;go_loopw [3,6] (fun x y wr=>∃ (d m:Nat),x = .int .u64 d∧y = .int .u64 m∧Hid (Nat.gcd d m=Nat.gcd d0 m0)∧okU d∧okU m∧Hid (∃ n,wr=w.drewN n)) (fun _ y _=>(intOf y).toNat)
   case atStart=>exact ⟨d0,m0,rfl,rfl,Lib.hid rfl,hu,hm,HW⟩
   case round =>
    clear HW hu hm;obtain ⟨d,m,rfl,rfl,HG,hd,hm,HW⟩:=hrel;by_cases h0:m=0
    ·subst h0
     have HF:Hid (gcdTo L (k+1)=d):=by
      have h:=HG.out;rw [Nat.gcd_zero_right] at h;show _=_
      rw [HS.out,h]
     clear HG hm;go_wp2;go_roundw
     case rel=>exact ⟨k+1,by omega,by go_num,by rw [HF.out],HW⟩
     case measure=>simp [intOf]; omega
    ·have hd1:((m:Int) != 0)=true:=by simp [h0]
     have hd2:((m:Int) == 0)=false:=by simp [h0]
     have hd3:¬ (m:Int)=0:=by omega
     have he:Int.tmod (d:Int) (m:Int)=((d % m:Nat):Int):=by rw [Int.tmod_eq_emod_of_nonneg (by omega)]; rfl
     have HG2:Hid (Nat.gcd m (d % m)=Nat.gcd d0 m0):=by
      show _=_
      rw [gcd_round]; exact HG.out
     have HM:Hid (d % m<m):=Nat.mod_lt _ (by omega);have ho2:=okU_mod (d:=d) h0 hm;clear HG;go_wp2;go_quiet (fail)
     go_wp2;go_roundw
     case rel=>exact ⟨m,d % m,rfl,rfl,HG2,hm,ho2,by obtain ⟨n,rfl⟩:=HW.out; exact Lib.hid ⟨_,World.drewN_drewN _ _ _⟩⟩
     case measure=>simp [intOf]; exact HM.out
  ·obtain rfl:n=k:=by omega
   have hu:=u64_to_i64 (HGL.out n);go_wp2;go_ret;exact ⟨rfl,HW.out⟩
theorem okG_of {a:Int} (h : -10000000000000≤a∧a≤10000000000000):okG a:=by unfold okG; omega
theorem okG_gcd {a b:Int} (ha:okG a) (hb:okG b):okG (Nat.gcd a.natAbs b.natAbs:Nat):=by
 have h1:=okU_gcdTo (L := [a,b]) (fun k=>match k with | 0=>ha | 1=>hb | k+2=>by simp [nth,List.getD,okG]) 2;rw [gcdTo_2] at h1;unfold okU at h1;unfold okG;omega
theorem okG_nth4 {a b c d:Int} (ha:okG a) (hb:okG b) (hc:okG c) (hd:okG d):∀ k,okG (nth [a,b,c,d] k)
 | 0=>ha
 | 1=>hb
 | 2=>hc
 | 3=>hd
 | k+4=>by simp [nth,List.getD,okG]
theorem gcd_one (x:Nat):(((x:Nat):Int) == 1)=decide (x=1):=by
 rw [Bool.eq_iff_iff];simp;omega
set_option maxHeartbeats 1600000 in
theorem iThrustOk_any (H V M D:Int) (w:World) :
  Calls Tryz.prog 89 #[.agg #[.int .i64 H,.int .i64 V,.int .i64 M,.int .i64 D]] w fun e w'=>e = .returned (.bool (thrB H V M D))∧Below w.heap.size w w':=by
 have HA:=Lib.hid ((Below.refl w.heap.size w).alloc (Nat.le_refl _) (.cells #[.int .i64 H,.int .i64 V,.int .i64 M,.int .i64 D] 66));cases h1:inB D 1 1000000
 ·have HF:=Lib.hid (thrB_1 H V M h1)
  go_enter Tryz.func89,Tryz.ntmps89;go_wp2_with (go_at_call 43; refine (within_any _ _ _ _).mono ?_; rw [h1]; rintro e w' ⟨rfl,rfl⟩);go_ret;exact ⟨ret_bool HF.out.symm,HA.out⟩
 cases h2:inB H 0 1000000000000
 ·have HF:=Lib.hid (thrB_2 V M D h2)
  go_enter Tryz.func89,Tryz.ntmps89;go_wp2_with (go_at_call 43; refine (within_any _ _ _ _).mono ?_; (first | rw [h1] | rw [h2]); rintro e w' ⟨rfl,rfl⟩);go_ret;exact ⟨ret_bool HF.out.symm,HA.out⟩
 cases h3:inB V (-10000000000000) 10000000000000
 ·have HF:=Lib.hid (thrB_3 H M D h3)
  go_enter Tryz.func89,Tryz.ntmps89;go_wp2_with (go_at_call 43; refine (within_any _ _ _ _).mono ?_; (first | rw [h1] | rw [h2] | rw [h3]); rintro e w' ⟨rfl,rfl⟩);go_ret;exact ⟨ret_bool HF.out.symm,HA.out⟩
 cases h4:inB M (-10000000000000) 10000000000000
 ·have HF:=Lib.hid (thrB_4 H V D h4)
  go_enter Tryz.func89,Tryz.ntmps89;go_wp2_with (go_at_call 43; refine (within_any _ _ _ _).mono ?_; (first | rw [h1] | rw [h2] | rw [h3] | rw [h4]); rintro e w' ⟨rfl,rfl⟩);go_ret;exact ⟨ret_bool HF.out.symm,HA.out⟩
 have HT:Hid (decide (gcdTo [H,V,M,D] 4=1)=thrB H V M D):=by
  show _=_
  rw [thrB_t h1 h2 h3 h4,gcdTo_4]
 have HOK:Hid (∀ k,okG (nth [H,V,M,D] k)):=by
  have b1:=inB_iff.1 h1;have b2:=inB_iff.1 h2;have b3:=inB_iff.1 h3;have b4:=inB_iff.1 h4;exact okG_nth4 (okG_of (by omega)) (okG_of (by omega)) (okG_of (by omega)) (okG_of (by omega))
 go_enter Tryz.func89,Tryz.ntmps89;go_wp2_with (go_at_call 43; refine (within_any _ _ _ _).mono ?_; (first | rw [h1] | rw [h2] | rw [h3] | rw [h4]); rintro e w' ⟨rfl,rfl⟩);have hx:IntsAt ((w.alloc (.cells #[.int .i64 H,.int .i64 V,.int .i64 M,.int .i64 D] 66)).alloc (.cells #[.int .i64 H,.int .i64 V,.int .i64 M,.int .i64 D] 3)) ((w.alloc (.cells #[.int .i64 H,.int .i64 V,.int .i64 M,.int .i64 D] 66)).alloc (.cells #[.int .i64 H,.int .i64 V,.int .i64 M,.int .i64 D] 3)).heap.size (some ⟨w.heap.size+1,0,none⟩) 4 [H,V,M,D]:=by
  have h:=intsAt_row (World.rowIs_alloc (w.alloc (.cells #[.int .i64 H,.int .i64 V,.int .i64 M,.int .i64 D] 66)) #[.int .i64 H,.int .i64 V,.int .i64 M,.int .i64 D] 3 (ints [H,V,M,D]) (fun j hj=>by simp at hj; match j,hj with | 0,_=>rfl | 1,_=>rfl | 2,_=>rfl | 3,_=>rfl)) (zs := [H,V,M,D]) (by simp) (fun k _=>rfl)
  simp only [World.size_alloc] at h ⊢;exact h
 refine (commonDivisor_any _ _ _ [H,V,M,D] _ (by exact hx) (by omega) HOK.out).mono ?_;rintro e w1 ⟨rfl,n1,rfl⟩;have HG:=Lib.hid (gcd_one (gcdTo [H,V,M,D] 4));clear hx;generalize gcdTo [H,V,M,D] 4=g0 at *
 go_wp2;go_ret;exact ⟨ret_bool (by rw [← HT.out]; first | exact HG.out | simp),below_drewN (HA.out.alloc (by simp) _) _⟩
end
section
open Go.RowKit
def Box4 (w:World) (b:Nat) (H V M D:Int):Prop:=(w.cell? ⟨b,0,none⟩=some (.int .i64 H)∧w.cell? ⟨b,1,none⟩=some (.int .i64 V)∧w.cell? ⟨b,2,none⟩=some (.int .i64 M)∧w.cell? ⟨b,3,none⟩=some (.int .i64 D))∧b<w.heap.size
theorem Box4.after {w w1:World} {b:Nat} {H V M D:Int} (h:Box4 w b H V M D) (hb:Below w.heap.size w w1):Box4 w1 b H V M D :=
 ⟨⟨(hb.cell (p:=⟨b,0,none⟩) h.2).trans h.1.1,(hb.cell (p:=⟨b,1,none⟩) h.2).trans h.1.2.1,(hb.cell (p:=⟨b,2,none⟩) h.2).trans h.1.2.2.1,(hb.cell (p:=⟨b,3,none⟩) h.2).trans h.1.2.2.2⟩,Nat.lt_of_lt_of_le h.2 hb.size⟩
theorem Box4.new (w:World) (H V M D:Int) (t:TypeId):Box4 (w.alloc (.cells #[.int .i64 H,.int .i64 V,.int .i64 M,.int .i64 D] t)) w.heap.size H V M D:=by
 have h:=World.rowIs_alloc w #[.int .i64 H,.int .i64 V,.int .i64 M,.int .i64 D] t (ints [H,V,M,D]) (fun j hj=>by simp at hj; match j,hj with | 0,_=>rfl | 1,_=>rfl | 2,_=>rfl | 3,_=>rfl)
 exact ⟨⟨h.cell (by simp),h.cell (by simp),h.cell (by simp),h.cell (by simp)⟩,by simp⟩
structure AT (w wr:World) (v:Value) (H V M D:Int):Prop where
 arch:Box wr w.heap.size v
 thr:Box4 wr (w.heap.size+1) H V M D
 below:Below w.heap.size w wr
theorem AT.after {w wr w1:World} {v:Value} {H V M D:Int} (h:AT w wr v H V M D) (hb:Below wr.heap.size wr w1):AT w w1 v H V M D:=⟨h.arch.after hb,h.thr.after hb,h.below.trans (hb.mono h.below.size)⟩
theorem AT.start (w:World) (v:Value) (H V M D:Int) (T U:TypeId):AT w ((w.alloc (.cells #[v] T)).alloc (.cells #[.int .i64 H,.int .i64 V,.int .i64 M,.int .i64 D] U)) v H V M D:=by
 refine ⟨(Box.new w v T).alloc _,?_,((Below.refl _ _).alloc (Nat.le_refl _) _).alloc (by simp) _⟩;have h:=Box4.new (w.alloc (.cells #[v] T)) H V M D U;rw [World.size_alloc] at h;exact h
end
section
open Go.RowKit
structure SideBd (a b c d H V M D:Int):Prop where
 aH : -100000000000000≤a*H∧a*H≤100000000000000
 bV : -1000000000000000≤b*V∧b*V≤1000000000000000
 cM : -10000000000000≤c*M∧c*M≤10000000000000
 dD : -1000000000000000≤d*D∧d*D≤1000000000000000
theorem sideBd {a b c d H V M D:Int} (ht:thrB H V M D=true) (hr:rowB a b c d=true):SideBd a b c d H V M D:=by
 obtain ⟨h1,h2,h3,h4,_⟩:=thrB_out ht;rw [rowB_iff] at hr;have e1:=mul_bd (a:=a) (b:=H) (m:=100) (n:=1000000000000) (by omega) (by omega);have e2:=mul_bd (a:=b) (b:=V) (m:=100) (n:=10000000000000) (by omega) (by omega);have e3:=mul_bd (a:=c) (b:=M) (m:=1) (n:=10000000000000) (by omega) (by omega);have e4:=mul_bd (a:=d) (b:=D) (m:=1000000000) (n:=1000000) (by omega) (by omega);exact ⟨by omega,by omega,by omega,by omega⟩
def metB (a b c d H V M D:Int):Bool:=decide (a*H+b*V+c*M≤d*D)
def fulB (a b c d H V M D:Int):Bool:=thrB H V M D && (rowB a b c d && metB a b c d H V M D)
theorem fulB_1 (a b c d:Int) {H V M D:Int} (h:thrB H V M D=false):fulB a b c d H V M D=false:=by simp [fulB,h]
theorem fulB_2 {a b c d:Int} (H V M D:Int) (h:rowB a b c d=false):fulB a b c d H V M D=false:=by simp [fulB,h]
theorem fulB_t {a b c d H V M D:Int} (h:thrB H V M D=true) (h2:rowB a b c d=true):fulB a b c d H V M D=metB a b c d H V M D:=by simp [fulB,h,h2]
def fulAt (rs:List Int) (H V M D:Int) (i:Nat):Bool:=fulB (nth rs (i*4)) (nth rs (i*4+1)) (nth rs (i*4+2)) (nth rs (i*4+3)) H V M D
def fulAll (rs:List Int) (n:Nat) (H V M D:Int):Bool:=inB (n:Int) 1 40 && allB (fulAt rs H V M D) n
theorem fulAll_1 (rs:List Int) {n:Nat} (H V M D:Int) (h:inB (n:Int) 1 40=false):fulAll rs n H V M D=false:=by simp [fulAll,h]
theorem fulAll_2 {rs:List Int} {n k:Nat} {H V M D:Int} (hk:k<n) (h:fulAt rs H V M D k=false):fulAll rs n H V M D=false:=by simp [fulAll,allB_f hk h]
theorem fulAll_t {rs:List Int} {n:Nat} {H V M D:Int} (h1:inB (n:Int) 1 40=true) (h:allTo (fulAt rs H V M D) n):fulAll rs n H V M D=true:=by simp [fulAll,h1,allB_t h]
theorem rwCells {wr:World} {b off n j:Nat} {zs:List Int} (hc:∀ i,i<n*4→wr.cell? ⟨b,off+i,none⟩=some (.int .i64 (nth zs i))) (hj:j<n) :
  wr.cell? ⟨b,off+j*4,none⟩=some (.int .i64 (nth zs (j*4)))∧wr.cell? ⟨b,off+j*4+1,none⟩=some (.int .i64 (nth zs (j*4+1)))∧wr.cell? ⟨b,off+j*4+2,none⟩=some (.int .i64 (nth zs (j*4+2)))∧wr.cell? ⟨b,off+j*4+3,none⟩=some (.int .i64 (nth zs (j*4+3))) :=
 ⟨hc (j*4) (by omega),hc (j*4+1) (by omega),hc (j*4+2) (by omega),hc (j*4+3) (by omega)⟩
set_option maxHeartbeats 1600000 in
theorem iRowOk_any (a b c d:Int) (w:World) :
  Calls Tryz.prog 124 #[.agg #[.int .i64 a,.int .i64 b,.int .i64 c,.int .i64 d]] w fun e w'=>e = .returned (.bool (rowB a b c d))∧Below w.heap.size w w':=by
 have HA:=Lib.hid ((Below.refl w.heap.size w).alloc (Nat.le_refl _) (.cells #[.int .i64 a,.int .i64 b,.int .i64 c,.int .i64 d] 133));cases h1:inB a (-100) 100
 ·have HF:=Lib.hid (rowB_1 b c d h1)
  go_enter Tryz.func124,Tryz.ntmps124;go_wp2_with (go_at_call 43; refine (within_any _ _ _ _).mono ?_; (first | rw [h1]); rintro e w' ⟨rfl,rfl⟩);go_ret;exact ⟨ret_bool HF.out.symm,HA.out⟩
 cases h2:inB b (-100) 100
 ·have HF:=Lib.hid (rowB_2 a c d h2)
  go_enter Tryz.func124,Tryz.ntmps124;go_wp2_with (go_at_call 43; refine (within_any _ _ _ _).mono ?_; (first | rw [h1] | rw [h2]); rintro e w' ⟨rfl,rfl⟩);go_ret;exact ⟨ret_bool HF.out.symm,HA.out⟩
 cases h3:inB c (-1) 1
 ·have HF:=Lib.hid (rowB_3 a b d h3)
  go_enter Tryz.func124,Tryz.ntmps124;go_wp2_with (go_at_call 43; refine (within_any _ _ _ _).mono ?_; (first | rw [h1] | rw [h2] | rw [h3]); rintro e w' ⟨rfl,rfl⟩);go_ret;exact ⟨ret_bool HF.out.symm,HA.out⟩
 have HF:=Lib.hid (rowB_t d h1 h2 h3);generalize hd:inB d (-1000000000) 1000000000=u at *
 go_enter Tryz.func124,Tryz.ntmps124;go_wp2_with (go_at_call 43; refine (within_any _ _ _ _).mono ?_; (first | rw [h1] | rw [h2] | rw [h3] | rw [hd]); rintro e w' ⟨rfl,rfl⟩);go_ret;exact ⟨ret_bool HF.out.symm,HA.out⟩
set_option maxHeartbeats 1600000 in
theorem rowsOk_any (A:Option Addr) (n c:Nat) (rs:List Int) (w:World) (h:RecsAt w w.heap.size 4 A n rs) (hn:n≤1048576) :
  Calls Tryz.prog 104 #[.slice A n c] w fun e w'=>e = .returned (.bool (allB (rowAt rs) n))∧Below w.heap.size w w':=by
 have HL:=Lib.hid h;clear h;go_enter Tryz.func104,Tryz.ntmps104;go_wp2;go_loopw [7] (fun i wr=>∃ k:Nat,k≤n∧i = .int .i64 k∧Hid (allTo (rowAt rs) k)∧Hid (Below w.heap.size w wr)) (fun i _=>n - (intOf i).toNat)
 case atStart=>exact ⟨0,Nat.zero_le _,rfl,Lib.hid (allTo_0 _),Lib.hid (Below.refl _ _)⟩
 case round =>
  obtain ⟨k,hk,rfl,HP,HB⟩:=hrel;by_cases hlt:k<n
  ·obtain ⟨b,off,rfl,hbB,hc⟩:=HL.out.2 (by omega)
   obtain ⟨x0,x1,x2,x3⟩:=rwCells (fun i hi=>(HB.out.cell (by exact hbB)).trans (hc i hi)) hlt;have hz:=HB.out.size;have HS:=Lib.hid (fun e=>allTo_step HP.out (k:=k) e);have HF0:=Lib.hid (fun e=>allB_f (p:=rowAt rs) hlt e);have eR:rowAt rs k=rowB (nth rs (k*4)) (nth rs (k*4+1)) (nth rs (k*4+2)) (nth rs (k*4+3)):=rfl;have ER:=Lib.hid eR;clear hc eR;generalize nth rs (k*4)=y0 at *
   generalize nth rs (k*4+1)=y1 at *
   generalize nth rs (k*4+2)=y2 at *
   generalize nth rs (k*4+3)=y3 at *
   have HBA:=Lib.hid (HB.out.alloc hz (.cells #[.int .i64 y0,.int .i64 y1,.int .i64 y2,.int .i64 y3] 133));obtain ⟨⟨z0,z1,z2,z3⟩,_⟩:=Box4.new wr y0 y1 y2 y3 133;go_wp2_with fail
   refine (iRowOk_any _ _ _ _ _).mono ?_;rintro e w1 ⟨rfl,hb1⟩;have HB1:=Lib.hid (HBA.out.trans (hb1.mono (by simp; omega)))
   clear hb1;cases g:rowB y0 y1 y2 y3
   ·have HF:=Lib.hid (HF0.out (ER.out.trans g))
    go_wp2;go_ret;exact ⟨ret_bool HF.out.symm,HB1.out⟩
   ·have HS1:=Lib.hid (HS.out (ER.out.trans g))
    go_wp2;go_roundw
    case rel=>exact ⟨k+1,by omega,by go_num,HS1,HB1⟩
    case measure=>simp [intOf]; omega
  ·obtain rfl:k=n:=by omega
   have HF:=Lib.hid (allB_t HP.out);go_wp2;go_ret;exact ⟨ret_bool HF.out.symm,HB.out⟩
set_option maxHeartbeats 1600000 in
theorem sides_any (a b c d H V M D:Int) (w:World) (hb:SideBd a b c d H V M D) :
  Calls Tryz.prog 171 #[.agg #[.int .i64 a,.int .i64 b,.int .i64 c,.int .i64 d],.agg #[.int .i64 H,.int .i64 V,.int .i64 M,.int .i64 D]] w fun e w'=>e = .returned (.tuple #[.int .i64 (a*H+b*V+c*M),.int .i64 (d*D)])∧Below w.heap.size w w':=by
 obtain ⟨b1,b2,b3,b4⟩:=hb;have HA:=Lib.hid (((Below.refl w.heap.size w).alloc (Nat.le_refl _) (.cells #[.int .i64 a,.int .i64 b,.int .i64 c,.int .i64 d] 133)).alloc (by simp) (.cells #[.int .i64 H,.int .i64 V,.int .i64 M,.int .i64 D] 66));go_enter Tryz.func171,Tryz.ntmps171;go_wp2_with fail
 go_quiet (fail)
 go_wp2;go_ret2;exact ⟨rfl,below_drewN HA.out _⟩
structure TRi (w wr:World) (a b c d H V M D:Int):Prop where
 thr:Box4 wr w.heap.size H V M D
 row:Box4 wr (w.heap.size+1) a b c d
 below:Below w.heap.size w wr
theorem TRi.after {w wr w1:World} {a b c d H V M D:Int} (h:TRi w wr a b c d H V M D) (hb:Below wr.heap.size wr w1):TRi w w1 a b c d H V M D:=⟨h.thr.after hb,h.row.after hb,h.below.trans (hb.mono h.below.size)⟩
theorem TRi.start (w:World) (a b c d H V M D:Int) (T U:TypeId):TRi w ((w.alloc (.cells #[.int .i64 H,.int .i64 V,.int .i64 M,.int .i64 D] T)).alloc (.cells #[.int .i64 a,.int .i64 b,.int .i64 c,.int .i64 d] U)) a b c d H V M D:=by
 refine ⟨(Box4.new w H V M D T).after ((Below.refl _ _).alloc (Nat.le_refl _) _),?_,((Below.refl _ _).alloc (Nat.le_refl _) _).alloc (by simp) _⟩;have h:=Box4.new (w.alloc (.cells #[.int .i64 H,.int .i64 V,.int .i64 M,.int .i64 D] T)) a b c d U;rw [World.size_alloc] at h;exact h
set_option maxHeartbeats 1600000 in
theorem iFulfills_any (a b c d H V M D:Int) (w:World) :
  Calls Tryz.prog 165 #[.agg #[.int .i64 H,.int .i64 V,.int .i64 M,.int .i64 D],.agg #[.int .i64 a,.int .i64 b,.int .i64 c,.int .i64 d]] w fun e w'=>e = .returned (.bool (fulB a b c d H V M D))∧Below w.heap.size w w':=by
 have HT:=Lib.hid (TRi.start w a b c d H V M D 66 133);cases hT:thrB H V M D
 ·have HF:=Lib.hid (fulB_1 a b c d hT)
  go_enter Tryz.func165,Tryz.ntmps165;go_wp2_with fail
  refine (iThrustOk_any _ _ _ _ _).mono ?_;rw [hT];rintro e w1 ⟨rfl,hb1⟩;have HT1:=Lib.hid (HT.out.after hb1);clear hb1;go_wp2;go_ret;exact ⟨ret_bool HF.out.symm,HT1.out.below⟩
 cases hR:rowB a b c d
 ·have HF:=Lib.hid (fulB_2 H V M D hR)
  go_enter Tryz.func165,Tryz.ntmps165;go_wp2_with fail
  refine (iThrustOk_any _ _ _ _ _).mono ?_;rw [hT];rintro e w1 ⟨rfl,hb1⟩;have HT1:=Lib.hid (HT.out.after hb1);obtain ⟨c0,c1,c2,c3⟩:=HT1.out.row.1;clear hb1;go_wp2_with fail
  refine (iRowOk_any _ _ _ _ _).mono ?_;rw [hR];rintro e w2 ⟨rfl,hb2⟩;have HT2:=Lib.hid (HT1.out.after hb2);clear hb2;go_wp2;go_ret;exact ⟨ret_bool HF.out.symm,HT2.out.below⟩
 have HF:=Lib.hid (fulB_t hT hR);have HS:=Lib.hid (sideBd hT hR);go_enter Tryz.func165,Tryz.ntmps165;go_wp2_with fail
 refine (iThrustOk_any _ _ _ _ _).mono ?_;rw [hT];rintro e w1 ⟨rfl,hb1⟩;have HT1:=Lib.hid (HT.out.after hb1);obtain ⟨c0,c1,c2,c3⟩:=HT1.out.row.1;clear hb1;go_wp2_with fail
 refine (iRowOk_any _ _ _ _ _).mono ?_;rw [hR];rintro e w2 ⟨rfl,hb2⟩;have HT2:=Lib.hid (HT1.out.after hb2);clear c0 c1 c2 c3 hb2;obtain ⟨c0,c1,c2,c3⟩:=HT2.out.row.1;obtain ⟨d0,d1,d2,d3⟩:=HT2.out.thr.1;go_wp2_with fail
 refine (sides_any _ _ _ _ _ _ _ _ _ HS.out).mono ?_;rintro e w3 ⟨rfl,hb3⟩;have HT3:=Lib.hid (HT2.out.after hb3);clear c0 c1 c2 c3 d0 d1 d2 d3 hb3;go_wp2;go_ret;exact ⟨ret_bool (by rw [HF.out]; try rfl),HT3.out.below⟩
structure TRs (w wr:World) (a b c d H V M D:Int):Prop where
 thr:Box4 wr w.heap.size H V M D
 row:Box4 wr (w.heap.size+1) a b c d
 below:Below w.heap.size w wr
theorem TRs.after {w wr w1:World} {a b c d H V M D:Int} (h:TRs w wr a b c d H V M D) (hb:Below wr.heap.size wr w1):TRs w w1 a b c d H V M D:=⟨h.thr.after hb,h.row.after hb,h.below.trans (hb.mono h.below.size)⟩
theorem TRs.start (w:World) (a b c d H V M D:Int) (T U:TypeId):TRs w ((w.alloc (.cells #[.int .i64 H,.int .i64 V,.int .i64 M,.int .i64 D] T)).alloc (.cells #[.int .i64 a,.int .i64 b,.int .i64 c,.int .i64 d] U)) a b c d H V M D:=by
 refine ⟨(Box4.new w H V M D T).after ((Below.refl _ _).alloc (Nat.le_refl _) _),?_,((Below.refl _ _).alloc (Nat.le_refl _) _).alloc (by simp) _⟩;have h:=Box4.new (w.alloc (.cells #[.int .i64 H,.int .i64 V,.int .i64 M,.int .i64 D] T)) a b c d U;rw [World.size_alloc] at h;exact h
set_option maxHeartbeats 1600000 in
theorem iFulfillsAll_any (A:Option Addr) (n c:Nat) (rs:List Int) (H V M D:Int) (w:World) (h:RecsAt w w.heap.size 4 A n rs) (hn:n≤1048576) :
  Calls Tryz.prog 139 #[.agg #[.int .i64 H,.int .i64 V,.int .i64 M,.int .i64 D],.slice A n c] w fun e w'=>e = .returned (.bool (fulAll rs n H V M D))∧Below w.heap.size w w':=by
 have HL:=Lib.hid h;have BX:=Lib.hid (Box4.new w H V M D 66);have B0:=Lib.hid ((Below.refl w.heap.size w).alloc (Nat.le_refl _) (.cells #[.int .i64 H,.int .i64 V,.int .i64 M,.int .i64 D] 66));clear h;cases hI:inB (n:Int) 1 40
 ·have HF:=Lib.hid (fulAll_1 rs H V M D hI)
  go_enter Tryz.func139,Tryz.ntmps139;go_wp2_with (go_at_call 43; refine (within_any _ _ _ _).mono ?_; rw [hI]; rintro e w' ⟨rfl,rfl⟩);go_ret;exact ⟨ret_bool HF.out.symm,B0.out⟩
 have HT0:=Lib.hid (fun e=>fulAll_t (rs:=rs) (H:=H) (V:=V) (M:=M) (D:=D) hI e);go_enter Tryz.func139,Tryz.ntmps139;go_wp2_with (go_at_call 43; refine (within_any _ _ _ _).mono ?_; rw [hI]; rintro e w' ⟨rfl,rfl⟩);go_loopw [13] (fun i wr=>∃ k:Nat,k≤n∧i = .int .i64 k∧Hid (allTo (fulAt rs H V M D) k)∧Hid (Box4 wr w.heap.size H V M D)∧Hid (Below w.heap.size w wr)) (fun i _=>n - (intOf i).toNat)
 case atStart=>exact ⟨0,Nat.zero_le _,rfl,Lib.hid (allTo_0 _),BX,B0⟩
 case round =>
  clear BX B0;obtain ⟨k,hk,rfl,HP,HX,HB⟩:=hrel;by_cases hlt:k<n
  ·obtain ⟨b,off,rfl,hbB,hc⟩:=HL.out.2 (by omega)
   obtain ⟨x0,x1,x2,x3⟩:=rwCells (fun i hi=>(HB.out.cell (by exact hbB)).trans (hc i hi)) hlt;have hz:=HB.out.size;have HS:=Lib.hid (fun e=>allTo_step HP.out (k:=k) e);have HF0:=Lib.hid (fun e=>fulAll_2 (rs:=rs) (H:=H) (V:=V) (M:=M) (D:=D) hlt e);have eR:fulAt rs H V M D k=fulB (nth rs (k*4)) (nth rs (k*4+1)) (nth rs (k*4+2)) (nth rs (k*4+3)) H V M D:=rfl;have ER:=Lib.hid eR;clear hc eR;generalize nth rs (k*4)=y0 at *
   generalize nth rs (k*4+1)=y1 at *
   generalize nth rs (k*4+2)=y2 at *
   generalize nth rs (k*4+3)=y3 at *
   have HBA:=Lib.hid (HB.out.alloc hz (.cells #[.int .i64 y0,.int .i64 y1,.int .i64 y2,.int .i64 y3] 133));have HXA:=Lib.hid (HX.out.after ((Below.refl _ _).alloc (Nat.le_refl _) (.cells #[.int .i64 y0,.int .i64 y1,.int .i64 y2,.int .i64 y3] 133)));obtain ⟨⟨z0,z1,z2,z3⟩,_⟩:=Box4.new wr y0 y1 y2 y3 133;obtain ⟨c0,c1,c2,c3⟩:=HXA.out.1;go_wp2_with fail
   refine (iFulfills_any _ _ _ _ _ _ _ _ _).mono ?_;rintro e w1 ⟨rfl,hb1⟩;have HB1:=Lib.hid (HBA.out.trans (hb1.mono (by first | (simp; omega) | omega)))
   have HX1:=Lib.hid (HXA.out.after hb1);clear hb1 c0 c1 c2 c3;cases g:fulB y0 y1 y2 y3 H V M D
   ·have HF:=Lib.hid (HF0.out (ER.out.trans g))
    go_wp2;go_ret;exact ⟨ret_bool HF.out.symm,HB1.out⟩
   ·have HS1:=Lib.hid (HS.out (ER.out.trans g))
    go_wp2;go_roundw
    case rel=>exact ⟨k+1,by omega,by go_num,HS1,HX1,HB1⟩
    case measure=>simp [intOf]; omega
  ·obtain rfl:k=n:=by omega
   have HF:=Lib.hid (HT0.out HP.out);go_wp2;go_ret;exact ⟨ret_bool HF.out.symm,HB.out⟩
end
section
open Go.RowKit
open Go.Conc
def rowsB (n:Nat) (rs:List Int):Bool:=inB n 3 20 && allB (rowAt rs) n
theorem infoThrS:(Tryz.prog.info? 71).map (fun i=>(i.zero,i.size,i.bytes))=some (some (.slice none 0 0),1,24):=by kernel_rfl
theorem run_make_thrs (n:Nat) (hn:n≤1048576) (w:World):(Instr.makeSlice 148 (.int .i64 (n:Int)) (.int .i64 (n:Int))).run Tryz.prog w = .ok (.slice (some ⟨w.heap.size,0,none⟩) n n) (w.alloc (.cells (madeCells #[.slice none 0 0] n) 71)):=by
 obtain ⟨i0,hi0,hz0,hz1,hz2⟩:=info_parts infoThrS;have h:=run_make (P:=Tryz.prog) w 148 71 i0 (.slice none 0 0) Tryz.underlying148 hi0 hz0 .i64 .i64 (n:Int) (n:Int) (by omega) (by omega) (by rw [hz2]; omega) (by omega)
 simpa [hz1,Value.cells] using h
noncomputable def pbody:Code:=Tryz.f87.body.getD .skip
theorem at_0 (w:World) (a b c:Obj):(((w.alloc a).alloc b).alloc c).heap[w.heap.size]?=some a:=by
 rw [Below.heap_alloc _ _ _ (by simp; omega),Below.heap_alloc _ _ _ (by simp)]
 exact Array.getElem?_push_size ..
theorem at_1 (w:World) (a b c:Obj):(((w.alloc a).alloc b).alloc c).heap[w.heap.size+1]?=some b:=by
 rw [Below.heap_alloc _ _ _ (by simp)];have:((w.alloc a).alloc b).heap[(w.alloc a).heap.size]?=some b:=Array.getElem?_push_size ..;simpa using this
theorem at_2 (w:World) (a b c:Obj):(((w.alloc a).alloc b).alloc c).heap[w.heap.size+2]?=some c:=by
 have:(((w.alloc a).alloc b).alloc c).heap[((w.alloc a).alloc b).heap.size]?=some c:=Array.getElem?_push_size ..;simpa using this
def PF (n c:Nat) (A:Option Addr) (w0:World) (ts:Array Value) (w:World):Prop :=
 ∃ rb fb wg C,ts.size=55∧Rn.Fresh ts∧ts[1]?=some (.pointer (some ⟨rb,0,none⟩))∧ts[3]?=some (.pointer (some ⟨fb,0,none⟩))∧ts[4]?=some (.pointer (some ⟨wg,0,none⟩))∧ts[24]?=some (.int .i64 n)∧ts[25]?=some (.int .i64 0) ∧
  (w0.heap.size≤rb∧w0.heap.size≤fb∧w0.heap.size≤wg∧w0.heap.size≤C)∧(rb ≠ fb∧rb ≠ wg∧rb ≠ C∧fb ≠ wg∧fb ≠ C∧wg ≠ C) ∧
  w.heap[rb]?=some (.cells #[.slice A n c] 103)∧w.heap[fb]?=some (.cells #[.slice (some ⟨C,0,none⟩) n n] 148) ∧
  w.heap[C]?=some (.cells (madeCells #[.slice none 0 0] n) 71)∧w.heap[wg]?=some (Go.ConcR.wgBlock 158 0 0)
def PR (n c:Nat) (A:Option Addr) (rs:List Int) (w0:World) (b:Bool) (v:Value) (w:World):Prop :=
 Below w0.heap.size w0 w∧match b with
  | false=>v = .slice none 0 0∧rowsB n rs=false
  | true=>rowsB n rs=true∧∃ ts,v = .tuple #[.int .i64 87,.tuple ts]∧PF n c A w0 ts w
set_option maxHeartbeats 3200000 in
theorem proW (A : Option Addr) (n c : Nat) (rs : List Int) (w : World) (h : RecsAt w w.heap.size 4 A n rs) (hn : n ≤ 1048576) (r0 pr r3 r4 r5 l tl : Code) (e : pbody = .seq r0 (.seq pr (.seq r3 (.seq r4 (.seq (.seq r5 l) tl))))) :
  Rn.Pro Tryz.prog (.seq r0 (.seq pr (.seq r3 (.seq r4 (.seq (.seq r5 (.refuse "")) .skip))))) (fun a w' => a.defers = [] ∧ PR n c A rs w true (.tuple #[.int .i64 87, .tuple a.tmps]) w') (fun a w' => a.defers = [] ∧ ∃ v, (results Tryz.f87 a.tmps).run Tryz.prog w' = .ok v w' ∧ PR n c A rs w false v w') ⟨#[.slice A n c] ++ Array.replicate 54 undef, []⟩ w := by
 have HB0 := Lib.hid ((Below.refl w.heap.size w).alloc (Nat.le_refl _) (.cells #[.slice A n c] 103));have HL := Lib.hid (RecsAt.after h HB0.out);clear h;have hx0 : (w.alloc (.cells #[.slice A n c] 103)).cell? ⟨w.heap.size, 0, none⟩ = some (.slice A n c) := by simp
 generalize hw1 : w.alloc (.cells #[.slice A n c] 103) = w1 at HB0 HL hx0;have hw1s : w1.heap.size = w.heap.size + 1 := by rw [← hw1]; simp
 simp only [pbody, Tryz.f87, Option.getD, Code.seq.injEq] at e;obtain ⟨rfl, rfl, rfl, rfl, ⟨rfl, rfl⟩, rfl⟩ := e;simp only [Array.replicate_succ, Array.replicate_zero, List.push_toArray, List.append_toArray, List.nil_append, List.cons_append];refine Rn.pro_seq ?_;go_wp2;refine Rn.pro_seq ?_;cases hI : inB n 3 20
 ·have HF : Hid (rowsB n rs = false) := Lib.hid (by simp [rowsB, hI])
  go_wp2_with (go_at_call 43; refine (within_any _ _ _ _).mono ?_; rw [hI]; rintro e w' ⟨rfl, rfl⟩);exact ⟨rfl, _, by simp [results, Tryz.results87, go_sem], HB0.out, rfl, HF.out⟩
 cases hR : allB (rowAt rs) n
 ·have HF : Hid (rowsB n rs = false) := Lib.hid (by simp [rowsB, hR])
  go_wp2_with (first | (go_at_call 43; refine (within_any _ _ _ _).mono ?_; rw [hI]; rintro e w' ⟨rfl, rfl⟩) | (go_at_call 104; refine (rowsOk_any _ _ _ _ _ HL.out hn).mono ?_; rw [hR]; rintro e w2 ⟨rfl, hb2⟩));exact ⟨rfl, _, by simp [results, Tryz.results87, go_sem], HB0.out.trans (hb2.mono HB0.out.size), rfl, HF.out⟩
 have HT : Hid (rowsB n rs = true) := Lib.hid (by simp [rowsB, hI, hR]);go_wp2_with (first | (go_at_call 43; refine (within_any _ _ _ _).mono ?_; rw [hI]; rintro e w' ⟨rfl, rfl⟩) | (go_at_call 104; refine (rowsOk_any _ _ _ _ _ HL.out hn).mono ?_; rw [hR]; rintro e w2 ⟨rfl, hb2⟩));have HB2 := Lib.hid (HB0.out.trans (hb2.mono HB0.out.size));have hx1 : w2.cell? ⟨w.heap.size, 0, none⟩ = some (.slice A n c) := (hb2.cell (by rw [hw1s]; simp)).trans hx0
 have hmk := run_make_thrs n hn;refine Rn.pro_seq ?_;go_wp2;refine Rn.pro_seq ?_;go_wp2;have hs2 : w.heap.size + 1 ≤ w2.heap.size := by have := hb2.size; omega
 have hx2 : (((w2.alloc (.cells (madeCells #[.slice none 0 0] n) 71)).alloc (.cells #[.slice (some ⟨w2.heap.size, 0, none⟩) n n] 148)).alloc (.cells #[.int .u64 0, .int .u32 0] 158)).cell? ⟨w.heap.size, 0, none⟩ = some (.slice A n c) := by
  rw [World.cell?_alloc_lt _ _ _ (by simp; omega), World.cell?_alloc_lt _ _ _ (by simp; omega), World.cell?_alloc_lt _ _ _ (by show w.heap.size < _; omega)]
  exact hx1
 refine Rn.pro_left (Rn.pro_seq ?_);go_wp2;refine Rn.pro_stop ⟨rfl, ?_, HT.out, _, rfl, w.heap.size, w2.heap.size + 1, w2.heap.size + 2, w2.heap.size, rfl, ⟨rfl, List.forall_mem_cons.2 ⟨rfl, List.forall_mem_cons.2 ⟨rfl, List.forall_mem_cons.2 ⟨rfl, List.forall_mem_cons.2 ⟨rfl, List.forall_mem_cons.2 ⟨rfl, List.forall_mem_cons.2 ⟨rfl, List.forall_mem_cons.2 ⟨rfl, List.forall_mem_cons.2 ⟨rfl, List.forall_mem_cons.2 ⟨rfl, List.forall_mem_cons.2 ⟨rfl, List.forall_mem_cons.2 ⟨rfl, List.forall_mem_cons.2 ⟨rfl, List.forall_mem_cons.2 ⟨rfl, List.forall_mem_cons.2 ⟨rfl, List.forall_mem_cons.2 ⟨rfl, List.forall_mem_cons.2 ⟨rfl, List.forall_mem_cons.2 ⟨rfl, List.forall_mem_cons.2 ⟨rfl, List.forall_mem_cons.2 ⟨rfl, List.forall_mem_cons.2 ⟨rfl, List.forall_mem_cons.2 ⟨rfl, List.forall_mem_cons.2 ⟨rfl, List.forall_mem_cons.2 ⟨rfl, List.forall_mem_cons.2 ⟨rfl, List.forall_mem_cons.2 ⟨rfl, List.forall_mem_cons.2 ⟨rfl, List.forall_mem_nil _⟩⟩⟩⟩⟩⟩⟩⟩⟩⟩⟩⟩⟩⟩⟩⟩⟩⟩⟩⟩⟩⟩⟩⟩⟩⟩⟩, rfl, rfl, rfl, rfl, rfl, ⟨by omega, by omega, by omega, by omega⟩, ⟨by omega, by omega, by omega, by omega, by omega, by omega⟩, ?_, ?_, ?_, ?_⟩
 ·exact ((HB2.out.alloc (by omega) _).alloc (by simp; omega) _).alloc (by simp; omega) _
 ·rw [Below.heap_alloc _ _ _ (by simp; omega), Below.heap_alloc _ _ _ (by simp; omega), Below.heap_alloc _ _ _ (by omega), hb2.block _ (by omega), ← hw1]
  show (w.heap.push _)[w.heap.size]? = _
  simp
 ·exact at_1 _ _ _ _
 ·exact at_0 _ _ _ _
 ·exact at_2 _ _ _ _
end
end Go.Proofs.YtjcgklifabcfkaaGreat
