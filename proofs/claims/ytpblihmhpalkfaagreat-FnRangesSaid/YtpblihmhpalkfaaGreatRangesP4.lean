/-
  Texts that the law stands on, part 4.
-/
import Derived.Test.YtpblihmhpalkfaaGreatRangesP1
import Derived.Test.YtpblihmhpalkfaaGreatRangesP2
import Derived.Test.YtpblihmhpalkfaaGreatRangesP3
import Derived.Test.YtpblihmhpalkfaaGreatJ10
import Derived.Test.YtpblihmhpalkfaaGreatJ11
import Derived.Test.YtpblihmhpalkfaaGreatJ15
import Derived.Test.YtpblihmhpalkfaaGreatJ16
import Derived.Test.YtpblihmhpalkfaaGreatJ17
import Derived.Test.YtpblihmhpalkfaaGreatJ20
import Derived.Outline
import Derived.Deep.RegionLaw
set_option maxRecDepth 100000
set_option linter.unusedVariables false
set_option linter.unusedSimpArgs false
namespace Go.Proofs.YtpblihmhpalkfaaGreat
namespace X
open Go.RowKit
def slLess (a b c d:Int):Bool:=decide (a*d<c*b)
def slMore (a b c d:Int):Bool:=slLess c d a b
def slB (a b:Int):Prop:=(-120≤a∧a≤120)∧(-120≤b∧b≤120)
def slOk (xs:List Int) (i:Nat):Prop:=slB (nth xs (i*2)) (nth xs (i*2+1))
def bestTo (bt:Int→Int→Int→Int→Bool) (xs:List Int):Nat→Int × Int
 | 0=>(nth xs 0,nth xs 1)
 | k+1=>if bt (nth xs ((k+1)*2)) (nth xs ((k+1)*2+1)) (bestTo bt xs k).1 (bestTo bt xs k).2=true then (nth xs ((k+1)*2),nth xs ((k+1)*2+1)) else bestTo bt xs k
theorem bestTo_t {bt:Int→Int→Int→Int→Bool} {xs:List Int} {k:Nat} (h:bt (nth xs ((k+1)*2)) (nth xs ((k+1)*2+1)) (bestTo bt xs k).1 (bestTo bt xs k).2=true):bestTo bt xs (k+1)=(nth xs ((k+1)*2),nth xs ((k+1)*2+1)):=by simp [bestTo,h]
theorem bestTo_f {bt:Int→Int→Int→Int→Bool} {xs:List Int} {k:Nat} (h:bt (nth xs ((k+1)*2)) (nth xs ((k+1)*2+1)) (bestTo bt xs k).1 (bestTo bt xs k).2=false):bestTo bt xs (k+1)=((bestTo bt xs k).1,(bestTo bt xs k).2):=by simp [bestTo,h]
theorem bestTo_ok (bt:Int→Int→Int→Int→Bool) {xs:List Int} {n:Nat} (h:∀ i,i<n→slOk xs i):∀ k,k<n→slB (bestTo bt xs k).1 (bestTo bt xs k).2
 | 0,hk=>h 0 hk
 | k+1,hk=>by
  have ih:=bestTo_ok bt h k (by omega);simp only [bestTo];split
  ·exact h (k+1) hk
  ·exact ih
theorem slopeLess_any (a b c d:Int) (w:World) (h1:slB a b) (h2:slB c d) :
  Calls Tryzx.prog 52 #[.agg #[.int .i64 a,.int .i64 b],.agg #[.int .i64 c,.int .i64 d]] w fun e w'=>e = .returned (.bool (slLess a b c d))∧Below w.heap.size w w':=by
 unfold slB at h1 h2;have m1:=mul_bd (m:=120) (n:=120) (a:=a) (b:=d) (by omega) (by omega);have m2:=mul_bd (m:=120) (n:=120) (a:=c) (b:=b) (by omega) (by omega);go_enter Tryzx.func52,Tryz.ntmps52;go_wp2;go_ret;exact ⟨rfl,((Below.refl _ _).alloc (Nat.le_refl _) _).alloc (by simp) _⟩
theorem slopeMore_any (a b c d:Int) (w:World) (h1:slB a b) (h2:slB c d) :
  Calls Tryzx.prog 51 #[.agg #[.int .i64 a,.int .i64 b],.agg #[.int .i64 c,.int .i64 d]] w fun e w'=>e = .returned (.bool (slMore a b c d))∧Below w.heap.size w w':=by
 have HB:=Lib.hid (((Below.refl w.heap.size w).alloc (Nat.le_refl _) (.cells #[.int .i64 a,.int .i64 b] 76)).alloc (by simp) (.cells #[.int .i64 c,.int .i64 d] 76));go_enter Tryzx.func51,Tryz.ntmps51;go_wp2_with fail
 refine (slopeLess_any c d a b _ h2 h1).mono ?_;rintro e w1 ⟨rfl,hb1⟩;have HB1:=Lib.hid (HB.out.trans (hb1.mono (by simp; omega)))
 clear hb1;go_wp2;go_ret;exact ⟨rfl,HB1.out⟩
set_option maxRecDepth 100000 in
set_option maxHeartbeats 1600000 in
theorem bestBy_any (FF:Nat) (bt:Int→Int→Int→Int→Bool) (hF:∀ (args:Array Value) (w:World),Sem.run Tryzx.prog (callFunc FF args) w = .ok (.enter FF args) w) (hcl:∀ (a b c d:Int) (w:World),slB a b→slB c d→Calls Tryzx.prog FF #[.agg #[.int .i64 a,.int .i64 b],.agg #[.int .i64 c,.int .i64 d]] w fun e w'=>e = .returned (.bool (bt a b c d))∧Below w.heap.size w w') (A:Option Addr) (n c:Nat) (xs:List Int) (w:World) (h:RecsAt w w.heap.size 2 A n xs) (hn:1≤n) (hn2:n≤1048576) (hc:n≤c) (hcm:c≤9223372036854775807) (hok:∀ i,i<n→slOk xs i) :
  Calls Tryzx.prog 50 #[.slice A n c,.func (.func FF) #[] #[]] w fun e w'=>e = .returned (.agg #[.int .i64 (bestTo bt xs (n - 1)).1,.int .i64 (bestTo bt xs (n - 1)).2])∧Below w.heap.size w w':=by
 obtain ⟨j,rfl⟩:∃ j,n=j+1:=⟨n - 1,by omega⟩;obtain ⟨b,off,rfl,hbB,hcell⟩:=h.2 (by omega);have x0:w.cell? ⟨b,off,none⟩=some (.int .i64 (nth xs 0)):=hcell 0 (by omega);have x1:w.cell? ⟨b,off+1,none⟩=some (.int .i64 (nth xs 1)):=hcell 1 (by omega);have HC:=Lib.hid hcell;have HOK:=Lib.hid hok;have HB0:=Lib.hid (((Below.refl w.heap.size w).alloc (Nat.le_refl _) (.cells #[.int .i64 0,.int .i64 0] 76)).alloc (by simp) (.cells #[.int .i64 (nth xs 0),.int .i64 (nth xs 1)] 76));have HR0:=Lib.hid ((RowF.of_row (World.rowIs_alloc w #[.int .i64 0,.int .i64 0] 76 (ints [0,0]) (fun i hi=>by simp at hi; match i,hi with | 0,_=>rfl | 1,_=>rfl))).alloc (.cells #[.int .i64 (nth xs 0),.int .i64 (nth xs 1)] 76))
 have HR1:Hid (RowF ((w.alloc (.cells #[.int .i64 0,.int .i64 0] 76)).alloc (.cells #[.int .i64 (nth xs 0),.int .i64 (nth xs 1)] 76)) (w.heap.size+1) 76 2 (ints [(bestTo bt xs 0).1,(bestTo bt xs 0).2])):=by
  have h:=RowF.of_row (World.rowIs_alloc (w.alloc (.cells #[.int .i64 0,.int .i64 0] 76)) #[.int .i64 (nth xs 0),.int .i64 (nth xs 1)] 76 (ints [nth xs 0,nth xs 1]) (fun i hi=>by simp at hi; match i,hi with | 0,_=>rfl | 1,_=>rfl))
  rw [World.size_alloc] at h;exact h
 have hbl:b<w.heap.size+1:=by omega
 have e1:((j+1:Nat):Int) - 1=(j:Int):=by omega
 clear h hcell hok;by_cases hc1:c=1
 ·obtain rfl:j=0:=by omega
  subst hc1;go_enter Tryzx.func50,Tryz.ntmps50;go_wp2;go_loopw [14] (fun i wr=>∃ k:Nat,k≤0∧i = .int .i64 k∧Hid (RowF wr w.heap.size 76 2 (ints [0,0]))∧Hid (RowF wr (w.heap.size+1) 76 2 (ints [(bestTo bt xs 0).1,(bestTo bt xs 0).2]))∧Hid (Below w.heap.size w wr)) (fun i _=>0 - (intOf i).toNat)
  case atStart=>exact ⟨0,Nat.zero_le _,rfl,HR0,HR1,HB0⟩
  case round =>
   clear HB0 HR0 HR1 x0 x1;obtain ⟨k,hk,rfl,HA,HQB,HBL⟩:=hrel;by_cases hlt:k<0
   ·omega
   ·obtain rfl:k=0:=by omega
    have c0:wr.cell? ⟨w.heap.size+1,0,none⟩=some (.int .i64 (bestTo bt xs 0).1):=HQB.out.cell (by omega);have c1:wr.cell? ⟨w.heap.size+1,1,none⟩=some (.int .i64 (bestTo bt xs 0).2):=HQB.out.cell (by omega);have d0:wr.cell? ⟨w.heap.size,0,none⟩=some (.int .i64 0):=HA.out.cell (by omega);have d1:wr.cell? ⟨w.heap.size,1,none⟩=some (.int .i64 0):=HA.out.cell (by omega);have f0:=HA.out.frozen 0;have f1:=HA.out.frozen 1;go_wp2;refine bodyPost_ret (v := .agg #[.int .i64 (bestTo bt xs 0).1,.int .i64 (bestTo bt xs 0).2]) (by simp [results,Tryz.results50,go_sem, *]) rfl ⟨by first | rfl | rw [Nat.add_sub_cancel],?_⟩;exact (HBL.out.setCell (p:=⟨w.heap.size,0,none⟩) (Nat.le_refl _) _).setCell (p:=⟨w.heap.size,1,none⟩) (Nat.le_refl _) _
 ·have hc2:1<c:=by omega
  have hc3:(1:Int)<(c:Int):=by omega
  clear hc1;go_enter Tryzx.func50,Tryz.ntmps50;go_wp2;go_loopw [14] (fun i wr=>∃ k:Nat,k≤j∧i = .int .i64 k∧Hid (RowF wr w.heap.size 76 2 (ints [0,0]))∧Hid (RowF wr (w.heap.size+1) 76 2 (ints [(bestTo bt xs k).1,(bestTo bt xs k).2]))∧Hid (Below w.heap.size w wr)) (fun i _=>j - (intOf i).toNat)
  case atStart=>exact ⟨0,Nat.zero_le _,rfl,HR0,HR1,HB0⟩
  case round =>
   clear HB0 HR0 HR1 x0 x1;obtain ⟨k,hk,rfl,HA,HQB,HBL⟩:=hrel;by_cases hlt:k<j
   ·have y0:wr.cell? ⟨b,off+2+k*2,none⟩=some (.int .i64 (nth xs ((k+1)*2))):=by
     have:=(HBL.out.cell (p:=⟨b,off+(k+1)*2,none⟩) hbB).trans (HC.out ((k+1)*2) (by omega));rwa [show off+(k+1)*2=off+2+k*2 by omega] at this
    have y1:wr.cell? ⟨b,off+2+k*2+1,none⟩=some (.int .i64 (nth xs ((k+1)*2+1))):=by
     have:=(HBL.out.cell (p:=⟨b,off+((k+1)*2+1),none⟩) hbB).trans (HC.out ((k+1)*2+1) (by omega));rwa [show off+((k+1)*2+1)=off+2+k*2+1 by omega] at this
    have hz:=HBL.out.size;have hgl:=HQB.out.lt;have c0:wr.cell? ⟨w.heap.size+1,0,none⟩=some (.int .i64 (bestTo bt xs k).1):=HQB.out.cell (by omega);have c1:wr.cell? ⟨w.heap.size+1,1,none⟩=some (.int .i64 (bestTo bt xs k).2):=HQB.out.cell (by omega);have hs1:=HOK.out (k+1) (by omega);have hs2:=bestTo_ok bt HOK.out k (by omega);unfold slOk at hs1;have TT:=Lib.hid (bestTo_t (bt:=bt) (xs:=xs) (k:=k));have TF:=Lib.hid (bestTo_f (bt:=bt) (xs:=xs) (k:=k));have HBA:=Lib.hid (HBL.out.alloc hz (.cells #[.int .i64 (nth xs ((k+1)*2)),.int .i64 (nth xs ((k+1)*2+1))] 76));have HAA:=Lib.hid (HA.out.alloc (.cells #[.int .i64 (nth xs ((k+1)*2)),.int .i64 (nth xs ((k+1)*2+1))] 76));have HBX:=Lib.hid (HQB.out.alloc (.cells #[.int .i64 (nth xs ((k+1)*2)),.int .i64 (nth xs ((k+1)*2+1))] 76));have HNX:=Lib.hid (RowF.of_row (World.rowIs_alloc wr #[.int .i64 (nth xs ((k+1)*2)),.int .i64 (nth xs ((k+1)*2+1))] 76 (ints [nth xs ((k+1)*2),nth xs ((k+1)*2+1)]) (fun i hi=>by simp at hi; match i,hi with | 0,_=>rfl | 1,_=>rfl)))
    clear HA HQB HBL;generalize nth xs ((k+1)*2)=p0 at *
    generalize nth xs ((k+1)*2+1)=p1 at *
    generalize (bestTo bt xs k).1=q0 at *
    generalize (bestTo bt xs k).2=q1 at *
    go_wp2_with fail
    refine (hcl p0 p1 q0 q1 _ hs1 hs2).mono ?_;rintro e w2 ⟨rfl,hb2⟩;have HB2:=Lib.hid (HBA.out.trans (hb2.mono (by simp; omega)))
    have HA2:=Lib.hid (HAA.out.after hb2);have HX2:=Lib.hid (HBX.out.after hb2);have rN:=HNX.out.after hb2;clear hb2 HBA HAA HBX HNX;cases hbt:bt p0 p1 q0 q1
    ·have HF:=Lib.hid (TF.out hbt)
     go_wp2;go_roundw
     case rel=>exact ⟨k+1,by omega,by go_num,HA2,by rw [HF.out]; exact HX2,HB2⟩
     case measure=>simp [intOf]; omega
    ·have HF:=Lib.hid (TT.out hbt)
     have n0:w2.cell? ⟨wr.heap.size,0,none⟩=some (.int .i64 p0):=rN.cell (by simp);have n1:w2.cell? ⟨wr.heap.size,1,none⟩=some (.int .i64 p1):=rN.cell (by simp);have b0:w2.cell? ⟨w.heap.size+1,0,none⟩=some (.int .i64 q0):=HX2.out.cell (by omega);have b1:w2.cell? ⟨w.heap.size+1,1,none⟩=some (.int .i64 q1):=HX2.out.cell (by omega);have g0:=HX2.out.frozen 0;have g1:=HX2.out.frozen 1;have HX3:=Lib.hid (((HX2.out.set 0 (.int .i64 p0)).set 1 (.int .i64 p1)).congr (f':=ints [p0,p1]) (fun i hi=>by match i,hi with | 0,_=>rfl | 1,_=>rfl));have HA3:=Lib.hid ((HA2.out.set_other (p:=⟨w.heap.size+1,0,none⟩) (by simp) (.int .i64 p0)).set_other (p:=⟨w.heap.size+1,1,none⟩) (by simp) (.int .i64 p1));have HB3:=Lib.hid ((HB2.out.setCell (p:=⟨w.heap.size+1,0,none⟩) (by simp) (.int .i64 p0)).setCell (p:=⟨w.heap.size+1,1,none⟩) (by simp) (.int .i64 p1));clear rN;go_wp2;go_roundw
     case rel=>exact ⟨k+1,by omega,by go_num,HA3,by rw [HF.out]; exact HX3,HB3⟩
     case measure=>simp [intOf]; omega
   ·obtain rfl:k=j:=by omega
    have c0:wr.cell? ⟨w.heap.size+1,0,none⟩=some (.int .i64 (bestTo bt xs k).1):=HQB.out.cell (by omega);have c1:wr.cell? ⟨w.heap.size+1,1,none⟩=some (.int .i64 (bestTo bt xs k).2):=HQB.out.cell (by omega);have d0:wr.cell? ⟨w.heap.size,0,none⟩=some (.int .i64 0):=HA.out.cell (by omega);have d1:wr.cell? ⟨w.heap.size,1,none⟩=some (.int .i64 0):=HA.out.cell (by omega);have f0:=HA.out.frozen 0;have f1:=HA.out.frozen 1;go_wp2;refine bodyPost_ret (v := .agg #[.int .i64 (bestTo bt xs k).1,.int .i64 (bestTo bt xs k).2]) (by simp [results,Tryz.results50,go_sem, *]) rfl ⟨by first | rfl | rw [Nat.add_sub_cancel],?_⟩;exact (HBL.out.setCell (p:=⟨w.heap.size,0,none⟩) (Nat.le_refl _) _).setCell (p:=⟨w.heap.size,1,none⟩) (Nat.le_refl _) _
theorem bestLess_any (A:Option Addr) (n c:Nat) (xs:List Int) (w:World) (h:RecsAt w w.heap.size 2 A n xs) (hn:1≤n) (hn2:n≤1048576) (hc:n≤c) (hcm:c≤9223372036854775807) (hok:∀ i,i<n→slOk xs i) :
  Calls Tryzx.prog 50 #[.slice A n c,.func (.func 52) #[] #[]] w fun e w'=>e = .returned (.agg #[.int .i64 (bestTo slLess xs (n - 1)).1,.int .i64 (bestTo slLess xs (n - 1)).2])∧Below w.heap.size w w' :=
 bestBy_any 52 slLess (fun args w=>by simp) slopeLess_any A n c xs w h hn hn2 hc hcm hok
theorem bestMore_any (A:Option Addr) (n c:Nat) (xs:List Int) (w:World) (h:RecsAt w w.heap.size 2 A n xs) (hn:1≤n) (hn2:n≤1048576) (hc:n≤c) (hcm:c≤9223372036854775807) (hok:∀ i,i<n→slOk xs i) :
  Calls Tryzx.prog 50 #[.slice A n c,.func (.func 51) #[] #[]] w fun e w'=>e = .returned (.agg #[.int .i64 (bestTo slMore xs (n - 1)).1,.int .i64 (bestTo slMore xs (n - 1)).2])∧Below w.heap.size w w' :=
 bestBy_any 51 slMore (fun args w=>by simp) slopeMore_any A n c xs w h hn hn2 hc hcm hok
end X
namespace X
section
variable {zs : List Int} {n : Nat}
def lowTo (zs:List Int) (n:Nat):Nat→List Int
 | 0 => []
 | t+1=>if 0<dX zs (t / n) (t % n) then lowTo zs n t ++ [dY zs (t / n) (t % n),dX zs (t / n) (t % n)] else lowTo zs n t
def lowN (zs:List Int) (n:Nat):Nat→Nat
 | 0=>0
 | t+1=>if 0<dX zs (t / n) (t % n) then lowN zs n t+1 else lowN zs n t
def highTo (zs:List Int) (n:Nat):Nat→List Int
 | 0 => []
 | t+1=>if dX zs (t / n) (t % n)<0 then highTo zs n t ++ [-dY zs (t / n) (t % n),-dX zs (t / n) (t % n)] else highTo zs n t
def highN (zs:List Int) (n:Nat):Nat→Nat
 | 0=>0
 | t+1=>if dX zs (t / n) (t % n)<0 then highN zs n t+1 else highN zs n t
theorem lowN_le:∀ t,lowN zs n t≤t
 | 0=>Nat.le_refl _
 | t+1=>by have:=lowN_le t; simp only [lowN]; split <;> omega
theorem highN_le:∀ t,highN zs n t≤t
 | 0=>Nat.le_refl _
 | t+1=>by have:=highN_le t; simp only [highN]; split <;> omega
theorem lowTo_len:∀ t,(lowTo zs n t).length=lowN zs n t*2
 | 0=>rfl
 | t+1=>by have:=lowTo_len t; simp only [lowTo,lowN]; split <;> (try rw [List.length_append,List.length_cons,List.length_cons,List.length_nil]) <;> omega
theorem highTo_len:∀ t,(highTo zs n t).length=highN zs n t*2
 | 0=>rfl
 | t+1=>by have:=highTo_len t; simp only [highTo,highN]; split <;> (try rw [List.length_append,List.length_cons,List.length_cons,List.length_nil]) <;> omega
theorem nth_app_lt {xs ys:List Int} {k:Nat} (h:k<xs.length):nth (xs ++ ys) k=nth xs k:=by simp [nth,List.getD,List.getElem?_append_left h]
theorem nth_app_0 {xs:List Int} {k:Nat} {a b:Int} (h:xs.length=k):nth (xs ++ [a,b]) k=a:=by subst h; simp [nth,List.getD]
theorem nth_app_1 {xs:List Int} {k:Nat} {a b:Int} (h:xs.length=k):nth (xs ++ [a,b]) (k+1)=b:=by subst h; simp [nth,List.getD]
theorem low_from:∀ t j,j<lowN zs n t→∃ s,s<t∧0<dX zs (s / n) (s % n)∧nth (lowTo zs n t) (j*2)=dY zs (s / n) (s % n)∧nth (lowTo zs n t) (j*2+1)=dX zs (s / n) (s % n)
 | 0,j,hj=>absurd hj (by simp [lowN])
 | t+1,j,hj=>by
  have hl:=lowTo_len (zs:=zs) (n:=n) t;by_cases hd:0<dX zs (t / n) (t % n)
  ·simp only [lowN,hd,if_true] at hj
   simp only [lowTo,hd,if_true];by_cases e:j=lowN zs n t
   ·exact ⟨t,by omega,hd,nth_app_0 (by omega),nth_app_1 (by omega)⟩
   ·obtain ⟨s,h1,h2,h3,h4⟩:=low_from t j (by omega)
    exact ⟨s,by omega,h2,by rw [nth_app_lt (by omega)]; exact h3,by rw [nth_app_lt (by omega)]; exact h4⟩
  ·simp only [lowN,hd,if_false] at hj
   simp only [lowTo,hd,if_false];obtain ⟨s,h1,h2⟩:=low_from t j hj;exact ⟨s,by omega,h2⟩
theorem low_has:∀ t s,s<t→0<dX zs (s / n) (s % n)→∃ j,j<lowN zs n t∧nth (lowTo zs n t) (j*2)=dY zs (s / n) (s % n)∧nth (lowTo zs n t) (j*2+1)=dX zs (s / n) (s % n)
 | 0,s,hs,_=>absurd hs (by omega)
 | t+1,s,hs,hp=>by
  have hl:=lowTo_len (zs:=zs) (n:=n) t;by_cases e:s=t
  ·subst e
   refine ⟨lowN zs n s,by simp [lowN,hp],?_,?_⟩
   ·simp only [lowTo,hp,if_true]; exact nth_app_0 (by omega)
   ·simp only [lowTo,hp,if_true]; exact nth_app_1 (by omega)
  ·obtain ⟨j,h1,h2,h3⟩:=low_has t s (by omega) hp
   by_cases hd:0<dX zs (t / n) (t % n)
   ·refine ⟨j,by simp only [lowN,hd,if_true]; omega,?_,?_⟩
    ·simp only [lowTo,hd,if_true]; rw [nth_app_lt (by omega)]; exact h2
    ·simp only [lowTo,hd,if_true]; rw [nth_app_lt (by omega)]; exact h3
   ·exact ⟨j,by simp only [lowN,hd,if_false]; exact h1,by simp only [lowTo,hd,if_false]; exact h2,by simp only [lowTo,hd,if_false]; exact h3⟩
theorem high_from:∀ t j,j<highN zs n t→∃ s,s<t∧dX zs (s / n) (s % n)<0∧nth (highTo zs n t) (j*2) = -dY zs (s / n) (s % n)∧nth (highTo zs n t) (j*2+1) = -dX zs (s / n) (s % n)
 | 0,j,hj=>absurd hj (by simp [highN])
 | t+1,j,hj=>by
  have hl:=highTo_len (zs:=zs) (n:=n) t;by_cases hd:dX zs (t / n) (t % n)<0
  ·simp only [highN,hd,if_true] at hj
   simp only [highTo,hd,if_true];by_cases e:j=highN zs n t
   ·exact ⟨t,by omega,hd,nth_app_0 (by omega),nth_app_1 (by omega)⟩
   ·obtain ⟨s,h1,h2,h3,h4⟩:=high_from t j (by omega)
    exact ⟨s,by omega,h2,by rw [nth_app_lt (by omega)]; exact h3,by rw [nth_app_lt (by omega)]; exact h4⟩
  ·simp only [highN,hd,if_false] at hj
   simp only [highTo,hd,if_false];obtain ⟨s,h1,h2⟩:=high_from t j hj;exact ⟨s,by omega,h2⟩
theorem high_has:∀ t s,s<t→dX zs (s / n) (s % n)<0→∃ j,j<highN zs n t∧nth (highTo zs n t) (j*2) = -dY zs (s / n) (s % n)∧nth (highTo zs n t) (j*2+1) = -dX zs (s / n) (s % n)
 | 0,s,hs,_=>absurd hs (by omega)
 | t+1,s,hs,hp=>by
  have hl:=highTo_len (zs:=zs) (n:=n) t;by_cases e:s=t
  ·subst e
   refine ⟨highN zs n s,by simp [highN,hp],?_,?_⟩
   ·simp only [highTo,hp,if_true]; exact nth_app_0 (by omega)
   ·simp only [highTo,hp,if_true]; exact nth_app_1 (by omega)
  ·obtain ⟨j,h1,h2,h3⟩:=high_has t s (by omega) hp
   by_cases hd:dX zs (t / n) (t % n)<0
   ·refine ⟨j,by simp only [highN,hd,if_true]; omega,?_,?_⟩
    ·simp only [highTo,hd,if_true]; rw [nth_app_lt (by omega)]; exact h2
    ·simp only [highTo,hd,if_true]; rw [nth_app_lt (by omega)]; exact h3
   ·exact ⟨j,by simp only [highN,hd,if_false]; exact h1,by simp only [highTo,hd,if_false]; exact h2,by simp only [highTo,hd,if_false]; exact h3⟩
end
theorem sl_trans {a b c d e f:Int} (hd:0<d) (hb:0<b) (hf:0<f) (h1:a*d≤c*b) (h2:c*f≤e*d):a*f≤e*b:=by
 have m1:a*d*f≤c*b*f:=Int.mul_le_mul_of_nonneg_right h1 (by omega);have m2:c*f*b≤e*d*b:=Int.mul_le_mul_of_nonneg_right h2 (by omega);have m3:d*(a*f)≤d*(e*b):=by grind
 exact Int.le_of_mul_le_mul_left m3 hd
section
variable {xs : List Int}
theorem best_in (bt:Int→Int→Int→Int→Bool):∀ k,∃ j,j≤k∧bestTo bt xs k=(nth xs (j*2),nth xs (j*2+1))
 | 0=>⟨0,Nat.le_refl _,rfl⟩
 | k+1=>by
  obtain ⟨j,hj,e⟩:=best_in bt k;simp only [bestTo];split
  ·exact ⟨k+1,Nat.le_refl _,rfl⟩
  ·exact ⟨j,by omega,e⟩
theorem best_more {n : Nat} (hd : ∀ j, j < n → 0 < nth xs (j * 2 + 1)) : ∀ k, k < n → ∀ j, j ≤ k → nth xs (j * 2) * (bestTo slMore xs k).2 ≤ (bestTo slMore xs k).1 * nth xs (j * 2 + 1)
  | 0, _, j, hj => by obtain rfl : j = 0 := by omega
                      exact Int.le_refl _
  | k + 1, hk, j, hj => by
    have ih := best_more hd k (by omega);obtain ⟨m, hm, em⟩ := best_in slMore (xs := xs) k;have dm := hd m (by omega);cases hb : slMore (nth xs ((k + 1) * 2)) (nth xs ((k + 1) * 2 + 1)) (bestTo slMore xs k).1 (bestTo slMore xs k).2
    · rw [bestTo_f hb]
      by_cases e : j = k + 1
      · subst e
        simp [slMore, slLess] at hb;exact hb
      · exact ih j (by omega)
    · rw [bestTo_t hb]
      by_cases e : j = k + 1
      · subst e; exact Int.le_refl _
      · have h1 := ih j (by omega)
        have h2 : (bestTo slMore xs k).1 * nth xs ((k + 1) * 2 + 1) ≤ nth xs ((k + 1) * 2) * (bestTo slMore xs k).2 := by
          simp [slMore, slLess] at hb;omega
        rw [em] at h1 h2;exact sl_trans dm (hd j (by omega)) (hd (k + 1) hk) h1 h2
theorem best_less {n : Nat} (hd : ∀ j, j < n → 0 < nth xs (j * 2 + 1)) : ∀ k, k < n → ∀ j, j ≤ k → (bestTo slLess xs k).1 * nth xs (j * 2 + 1) ≤ nth xs (j * 2) * (bestTo slLess xs k).2
  | 0, _, j, hj => by obtain rfl : j = 0 := by omega
                      exact Int.le_refl _
  | k + 1, hk, j, hj => by
    have ih := best_less hd k (by omega);obtain ⟨m, hm, em⟩ := best_in slLess (xs := xs) k;have dm := hd m (by omega);cases hb : slLess (nth xs ((k + 1) * 2)) (nth xs ((k + 1) * 2 + 1)) (bestTo slLess xs k).1 (bestTo slLess xs k).2
    · rw [bestTo_f hb]
      by_cases e : j = k + 1
      · subst e
        simp [slLess] at hb;exact hb
      · exact ih j (by omega)
    · rw [bestTo_t hb]
      by_cases e : j = k + 1
      · subst e; exact Int.le_refl _
      · have h1 := ih j (by omega)
        have h2 : nth xs ((k + 1) * 2) * (bestTo slLess xs k).2 ≤ (bestTo slLess xs k).1 * nth xs ((k + 1) * 2 + 1) := by
          simp [slLess] at hb;omega
        rw [em] at h1 h2;exact sl_trans dm (hd (k + 1) hk) (hd j (by omega)) h2 h1
end
def noBad (zs:List Int) (n t:Nat):Prop:=∀ s,s<t→dX zs (s / n) (s % n)=0→dY zs (s / n) (s % n)≤0
theorem divmod {n i o:Nat} (ho:o<n):(i*n+o) / n=i∧(i*n+o) % n=o:=by
 constructor
 ·rw [Nat.mul_comm,Nat.mul_add_div (by omega),Nat.div_eq_of_lt ho,Nat.add_zero]
 ·rw [Nat.mul_comm,Nat.mul_add_mod,Nat.mod_eq_of_lt ho]
theorem pair_lt {n i o:Nat} (hi:i<n) (ho:o<n):i*n+o<n*n:=by
 have:(i+1)*n≤n*n:=Nat.mul_le_mul_right _ hi;rw [Nat.add_mul] at this;omega
theorem pair_of {n s:Nat} (hs:s<n*n):s / n<n∧s % n<n:=by
 have hn:0<n:=by
  rcases Nat.eq_zero_or_pos n with rfl | h
  ·simp at hs
  ·exact h
 exact ⟨Nat.div_lt_of_lt_mul hs,Nat.mod_lt _ hn⟩
theorem not_strI_bad {zs:List Int} {n s:Nat} (hs:s<n*n) (h1:dX zs (s / n) (s % n)=0) (h2:0<dY zs (s / n) (s % n)):¬ StrI zs n:=by
 intro h;have hp:=pair_of hs;have:=h.1 _ _ hp.1 hp.2 h1;omega
theorem strI_first {zs:List Int} {n:Nat} (h:noBad zs n (n*n)):∀ i o,i<n→o<n→dX zs i o=0→dY zs i o≤0:=by
 intro i o hi ho e;have hd:=divmod (i:=i) ho;have:=h (i*n+o) (pair_lt hi ho);rw [hd.1,hd.2] at this;exact this e
theorem strI_noLow {zs:List Int} {n:Nat} (h:noBad zs n (n*n)) (h0:lowN zs n (n*n)=0):StrI zs n:=by
 refine ⟨strI_first h,fun i o i' o' hi ho _ _ hp _ => ?_⟩;have hd:=divmod (i:=i) ho;obtain ⟨j,hj,_⟩:=low_has (zs:=zs) (n:=n) (n*n) (i*n+o) (pair_lt hi ho) (by rw [hd.1,hd.2]; exact hp);omega
theorem strI_noHigh {zs:List Int} {n:Nat} (h:noBad zs n (n*n)) (h0:highN zs n (n*n)=0):StrI zs n:=by
 refine ⟨strI_first h,fun i o i' o' _ _ hi ho _ hp => ?_⟩;have hd:=divmod (i:=i') ho;obtain ⟨j,hj,_⟩:=high_has (zs:=zs) (n:=n) (n*n) (i'*n+o') (pair_lt hi ho) (by rw [hd.1,hd.2]; exact hp);omega
theorem strI_both {zs:List Int} {n a b:Nat} (h:noBad zs n (n*n)) (ha:lowN zs n (n*n)=a+1) (hb:highN zs n (n*n)=b+1) :
  (slLess (bestTo slLess (highTo zs n (n*n)) b).1 (bestTo slLess (highTo zs n (n*n)) b).2 (bestTo slMore (lowTo zs n (n*n)) a).1 (bestTo slMore (lowTo zs n (n*n)) a).2=false) ↔ StrI zs n:=by
 have dl:∀ j,j<a+1→0<nth (lowTo zs n (n*n)) (j*2+1):=fun j hj=>by
  obtain ⟨s,_,h1,_,h2⟩:=low_from (zs:=zs) (n:=n) (n*n) j (by omega);rw [h2]; exact h1
 have dh:∀ j,j<b+1→0<nth (highTo zs n (n*n)) (j*2+1):=fun j hj=>by
  obtain ⟨s,_,h1,_,h2⟩:=high_from (zs:=zs) (n:=n) (n*n) j (by omega);rw [h2]; omega
 obtain ⟨jl,hjl,el⟩:=best_in slMore (xs:=lowTo zs n (n*n)) a;obtain ⟨jh,hjh,eh⟩:=best_in slLess (xs:=highTo zs n (n*n)) b;have ml:=best_more dl a (by omega);have mh:=best_less dh b (by omega);rw [el] at ml;rw [eh] at mh;rw [el,eh];simp only [slLess,decide_eq_false_iff_not,Int.not_lt];constructor
 ·intro hh
  refine ⟨strI_first h,fun i o i' o' hi ho hi' ho' hp hq => ?_⟩;have hd:=divmod (i:=i) ho;have hd':=divmod (i:=i') ho';obtain ⟨j,hj,e1,e2⟩:=low_has (zs:=zs) (n:=n) (n*n) (i*n+o) (pair_lt hi ho) (by rw [hd.1,hd.2]; exact hp);obtain ⟨j',hj',e1',e2'⟩:=high_has (zs:=zs) (n:=n) (n*n) (i'*n+o') (pair_lt hi' ho') (by rw [hd'.1,hd'.2]; exact hq);rw [hd.1,hd.2] at e1 e2;rw [hd'.1,hd'.2] at e1' e2';have k1:=ml j (by omega);have k2:=mh j' (by omega);have d1:=dl j (by omega);have d2:=dl jl (by omega);have d3:=dh jh (by omega);have d4:=dh j' (by omega);have k3:=sl_trans d2 d1 d3 k1 hh;have k4:=sl_trans d3 d1 d4 k3 k2;rw [e1,e2,e1',e2'] at k4;exact k4
 ·intro hS
  obtain ⟨s,hs,h1,h2,h3⟩:=low_from (zs:=zs) (n:=n) (n*n) jl (by omega);obtain ⟨s',hs',h1',h2',h3'⟩:=high_from (zs:=zs) (n:=n) (n*n) jh (by omega);have p:=pair_of hs;have p':=pair_of hs';have:=hS.2 _ _ _ _ p.1 p.2 p'.1 p'.2 h1 h1';rw [h2,h3,h2',h3'];exact this
end X
section
open Go.RowKit
theorem OwnR.cap {w:World} {base:Nat} {E:TypeId} {K n:Nat} {A:Option Addr} {c:Nat} {xs:List Int} (h:OwnR w base E K (.slice A n c) n xs):c≤9223372036854775807:=by
 rcases h.1.2 with ⟨h1,_⟩ | ⟨g,cap,cur,h1,_,_,_,h5,_⟩
 ·simp at h1; omega
 ·simp at h1
  unfold maxLen at h5;omega
end
namespace X
open Go.RowKit
theorem archB_pts {zs:List Int} {n:Nat} (h:archB zs n=true):∀ m,m<n→ptB (nth zs (m*4)) (nth zs (m*4+1))=true∧ptB (nth zs (m*4+2)) (nth zs (m*4+3))=true:=by
 obtain ⟨hn,hp⟩:=archB_out h;intro m hm;by_cases e:m+1<n
 ·have h1:=hp m (by omega)
  simp only [pairB,Bool.and_eq_true] at h1;have h2:=(stoneB_out h1.1).2.1;exact ⟨h2 0 (by omega),h2 3 (by omega)⟩
 ·obtain ⟨k,rfl⟩:∃ k,m=k+1:=⟨m - 1,by omega⟩
  have h1:=hp k (by omega);simp only [pairB,Bool.and_eq_true] at h1;have h2:=(stoneB_out h1.1).2.1;exact ⟨h2 1 (by omega),h2 2 (by omega)⟩
theorem dX_eq (zs:List Int) (i o:Nat):dX zs i o=nth zs (i*4) - nth zs (o*4+2):=by
 unfold dX pX;rw [show 2*i*2=i*4 by omega,show (2*o+1)*2=o*4+2 by omega]
theorem dY_eq (zs:List Int) (i o:Nat):dY zs i o=nth zs (i*4+1) - nth zs (o*4+3):=by
 unfold dY pY;rw [show 2*i*2+1=i*4+1 by omega,show (2*o+1)*2+1=o*4+3 by omega]
open Classical in
noncomputable def strB (zs:List Int) (n:Nat):Bool:=archB zs n && decide (StrI zs n)
theorem strB_f1 {zs:List Int} {n:Nat} (h:archB zs n=false):strB zs n=false:=by simp [strB,h]
theorem strB_f2 {zs:List Int} {n:Nat} (h:¬ StrI zs n):strB zs n=false:=by simp [strB,h]
theorem strB_t {zs:List Int} {n:Nat} (h:archB zs n=true) (h2:StrI zs n):strB zs n=true:=by simp [strB,h,h2]
theorem infoSlope:(Tryzx.prog.info? 76).map (fun i=>(i.zero,i.size,i.bytes))=some (some (.agg #[.int .i64 0,.int .i64 0]),2,16):=by kernel_rfl
structure StrRel (W1:World) (zs:List Int) (n t:Nat) (v3 v4:Value) (wr:World):Prop where
 low:OwnR wr W1.heap.size 76 2 v3 (lowN zs n t) (lowTo zs n t)
 high:OwnR wr W1.heap.size 76 2 v4 (highN zs n t) (highTo zs n t)
 apart:ApartV v3 v4
 good:noBad zs n t
 below:Below W1.heap.size W1 wr
theorem StrRel.alloc {W1:World} {zs:List Int} {n t:Nat} {v3 v4:Value} {wr:World} (h:StrRel W1 zs n t v3 v4 wr) (o:Obj):StrRel W1 zs n t v3 v4 (wr.alloc o):=⟨h.low.alloc o,h.high.alloc o,h.apart,h.good,h.below.alloc h.below.size o⟩
theorem StrRel.drewN {W1:World} {zs:List Int} {n t:Nat} {v3 v4:Value} {wr:World} (h:StrRel W1 zs n t v3 v4 wr) (k:Nat):StrRel W1 zs n t v3 v4 (wr.drewN k):=⟨h.low,h.high,h.apart,h.good,below_drewN h.below k⟩
theorem noBad_step {zs:List Int} {n t:Nat} (h:noBad zs n t) (e:dX zs (t / n) (t % n)=0→dY zs (t / n) (t % n)≤0):noBad zs n (t+1):=by
 intro s hs;by_cases hst:s=t
 ·subst hst; exact e
 ·exact h s (by omega)
theorem cell_newP (w:World) (a b:Int) (T:TypeId):∀ i,i<1*2→(w.alloc (.cells #[.int .i64 a,.int .i64 b] T)).cell? ⟨w.heap.size,i,none⟩=some (.int .i64 (nth [a,b] i)):=by
 intro i hi;exact World.rowIs.cell (World.rowIs_alloc w #[.int .i64 a,.int .i64 b] T (ints [a,b]) (fun i hi=>by simp at hi; match i,hi with | 0,_=>rfl | 1,_=>rfl)) (by simpa using hi)
theorem d_bd {zs:List Int} {n:Nat} (hA:archB zs n=true) {s:Nat} (hs:s<n*n):slB (dY zs (s / n) (s % n)) (dX zs (s / n) (s % n))∧slB (-dY zs (s / n) (s % n)) (-dX zs (s / n) (s % n)):=by
 have hp:=pair_of hs;have h1:=archB_pts hA _ hp.1;have h2:=archB_pts hA _ hp.2;rw [ptB_iff,ptB_iff] at h1 h2;have e1:=dX_eq zs (s / n) (s % n);have e2:=dY_eq zs (s / n) (s % n);unfold slB;omega
theorem low_ok {zs:List Int} {n:Nat} (hA:archB zs n=true):∀ j,j<lowN zs n (n*n)→slOk (lowTo zs n (n*n)) j:=by
 intro j hj;obtain ⟨s,hs,_,h2,h3⟩:=low_from (zs:=zs) (n:=n) (n*n) j hj;unfold slOk;rw [h2,h3];exact (d_bd hA hs).1
theorem high_ok {zs:List Int} {n:Nat} (hA:archB zs n=true):∀ j,j<highN zs n (n*n)→slOk (highTo zs n (n*n)) j:=by
 intro j hj;obtain ⟨s,hs,_,h2,h3⟩:=high_from (zs:=zs) (n:=n) (n*n) j hj;unfold slOk;rw [h2,h3];exact (d_bd hA hs).2
set_option maxRecDepth 100000 in
set_option maxHeartbeats 3200000 in
theorem iIsStraight_any (A:Option Addr) (n c:Nat) (zs:List Int) (w:World) (h:RecsAt w w.heap.size 4 A n zs) (hn:n≤1048576) :
  Calls Tryzx.prog 12 #[.agg #[.slice A n c]] w fun e w'=>e = .returned (.bool (strB zs n))∧Below w.heap.size w w':=by
 have b0:Below w.heap.size w (w.alloc (.cells #[.slice A n c] 26)):=(Below.refl _ _).alloc (Nat.le_refl _) _;have h1:=h.after b0;have bx0:Box (w.alloc (.cells #[.slice A n c] 26)) w.heap.size (.slice A n c):=Box.new _ _ _;cases hA:archB zs n
 ·have HF:=Lib.hid (strB_f1 hA)
  go_enter Tryzx.func12,Tryz.ntmps12;go_wp2_with fail
  refine (iArchOk_any _ _ _ zs _ h1 hn).mono ?_;rw [hA];rintro e w1 ⟨rfl,hb1⟩;go_wp2;go_ret;exact ⟨ret_bool HF.out.symm,below_then b0 hb1⟩
 ·have hn8:=(archB_out hA).1
  have HPT:=Lib.hid (archB_pts hA);have HT:=Lib.hid (fun h2=>strB_t hA h2);obtain ⟨b,off,rfl,hbB,hcell⟩:=h.2 (by omega);have HC:=Lib.hid hcell;clear hcell;go_enter Tryzx.func12,Tryz.ntmps12;go_wp2_with fail
  refine (iArchOk_any _ _ _ zs _ h1 hn).mono ?_;rw [hA];rintro e W1 ⟨rfl,hb1⟩;have bx1:=bx0.after hb1;have cx1:=bx1.1;have hgl1:=bx1.2;have B1:=Lib.hid (below_then b0 hb1);have hbl:b<W1.heap.size:=by have:=B1.out.size; omega
  have HC1:Hid (∀ j,j<n→W1.cell? ⟨b,off+j*4,none⟩=some (.int .i64 (nth zs (j*4)))∧W1.cell? ⟨b,off+j*4+1,none⟩=some (.int .i64 (nth zs (j*4+1)))∧W1.cell? ⟨b,off+j*4+2,none⟩=some (.int .i64 (nth zs (j*4+2)))∧W1.cell? ⟨b,off+j*4+3,none⟩=some (.int .i64 (nth zs (j*4+3)))) :=
   fun j hj=>jtCells (fun i hi=>(B1.out.cell (by exact hbB)).trans (HC.out i hi)) hj
  have HS0:Hid (StrRel W1 zs n (0*n) (.slice none 0 0) (.slice none 0 0) W1):=by
   rw [Nat.zero_mul];exact ⟨OwnR.nil _ _ _ _,OwnR.nil _ _ _ _,ApartV.nil _,fun s hs=>absurd hs (by omega),Below.refl _ _⟩
  have HA':=Lib.hid hA;clear hb1 b0 h1 bx0 h HC hA bx1;go_wp2;go_loopw [3,4,19] (fun v3 v4 i wr=>∃ k:Nat,k≤n∧i = .int .i64 k∧Hid (StrRel W1 zs n (k*n) v3 v4 wr)) (fun _ _ i _=>n - (intOf i).toNat)
  case atStart=>exact ⟨0,Nat.zero_le _,rfl,HS0⟩
  case round =>
   clear HS0;obtain ⟨i,hi,rfl,HS⟩:=hrel;obtain ⟨wo,rfl⟩:∃ wo:World,wo=wr:=⟨_,rfl⟩;by_cases hlt:i<n
   ·have hz:=HS.out.below.size
    have hq:=HC1.out i hlt;have x0:wo.cell? ⟨b,off+i*4,none⟩=some (.int .i64 (nth zs (i*4))):=(HS.out.below.cell (by exact hbl)).trans hq.1;have x1:wo.cell? ⟨b,off+i*4+1,none⟩=some (.int .i64 (nth zs (i*4+1))):=(HS.out.below.cell (by exact hbl)).trans hq.2.1;have x2:wo.cell? ⟨b,off+i*4+2,none⟩=some (.int .i64 (nth zs (i*4+2))):=(HS.out.below.cell (by exact hbl)).trans hq.2.2.1;have x3:wo.cell? ⟨b,off+i*4+3,none⟩=some (.int .i64 (nth zs (i*4+3))):=(HS.out.below.cell (by exact hbl)).trans hq.2.2.2;have cxr:wo.cell? ⟨w.heap.size,0,none⟩=some (.slice (some ⟨b,off,none⟩) n c):=(HS.out.below.cell (by exact hgl1)).trans cx1;have hgr:w.heap.size<wo.heap.size:=by omega
    have HSI:Hid (StrRel W1 zs n (i*n+0) u3 u4 (wo.alloc (.cells #[.int .i64 (nth zs (i*4)),.int .i64 (nth zs (i*4+1)),.int .i64 (nth zs (i*4+2)),.int .i64 (nth zs (i*4+3))] 45))):=HS.out.alloc _;have HRI:=Lib.hid (RowF.of_row (World.rowIs_alloc wo #[.int .i64 (nth zs (i*4)),.int .i64 (nth zs (i*4+1)),.int .i64 (nth zs (i*4+2)),.int .i64 (nth zs (i*4+3))] 45 (ints [nth zs (i*4),nth zs (i*4+1),nth zs (i*4+2),nth zs (i*4+3)]) (fun j hj=>by simp at hj; match j,hj with | 0,_=>rfl | 1,_=>rfl | 2,_=>rfl | 3,_=>rfl)))
    clear hq;go_wp2;go_loopw [3,4,26] (fun v3 v4 o wr=>∃ k:Nat,k≤n∧o = .int .i64 k∧Hid (StrRel W1 zs n (i*n+k) v3 v4 wr)∧Hid (RowF wr wo.heap.size 45 4 (ints [nth zs (i*4),nth zs (i*4+1),nth zs (i*4+2),nth zs (i*4+3)]))) (fun _ _ o _=>n - (intOf o).toNat)
    case atStart=>exact ⟨0,Nat.zero_le _,rfl,HSI,HRI⟩
    case round =>
     clear HSI HRI x0 x1 x2 x3 cxr HS;obtain ⟨o,ho,rfl,HSO,HRO⟩:=hrel;by_cases hlo:o<n
     ·have hq:=HC1.out o hlo
      have y0:wr.cell? ⟨b,off+o*4,none⟩=some (.int .i64 (nth zs (o*4))):=(HSO.out.below.cell (by exact hbl)).trans hq.1;have y1:wr.cell? ⟨b,off+o*4+1,none⟩=some (.int .i64 (nth zs (o*4+1))):=(HSO.out.below.cell (by exact hbl)).trans hq.2.1;have y2:wr.cell? ⟨b,off+o*4+2,none⟩=some (.int .i64 (nth zs (o*4+2))):=(HSO.out.below.cell (by exact hbl)).trans hq.2.2.1;have y3:wr.cell? ⟨b,off+o*4+3,none⟩=some (.int .i64 (nth zs (o*4+3))):=(HSO.out.below.cell (by exact hbl)).trans hq.2.2.2;have hgo:=HRO.out.lt;have j0:wr.cell? ⟨wo.heap.size,0,none⟩=some (.int .i64 (nth zs (i*4))):=HRO.out.cell (by omega);have j1:wr.cell? ⟨wo.heap.size,1,none⟩=some (.int .i64 (nth zs (i*4+1))):=HRO.out.cell (by omega);have hzr:=HSO.out.below.size;have hdm:=divmod (n:=n) (i:=i) (o:=o) hlo;have HSA:Hid (StrRel W1 zs n (i*n+o) u3 u4 (wr.alloc (.cells #[.int .i64 (nth zs (o*4)),.int .i64 (nth zs (o*4+1)),.int .i64 (nth zs (o*4+2)),.int .i64 (nth zs (o*4+3))] 45))):=HSO.out.alloc _;have HRA:=Lib.hid (HRO.out.alloc (.cells #[.int .i64 (nth zs (o*4)),.int .i64 (nth zs (o*4+1)),.int .i64 (nth zs (o*4+2)),.int .i64 (nth zs (o*4+3))] 45));have hpi:=HPT.out i hlt;have hpo:=HPT.out o hlo;rw [ptB_iff,ptB_iff] at hpi hpo;have hll:=lowN_le (zs:=zs) (n:=n) (i*n+o);have hhl:=highN_le (zs:=zs) (n:=n) (i*n+o);have hio:i*n+o<n*n:=pair_lt hlt hlo;have hnn:n*n≤64:=by have:=Nat.mul_le_mul hn8.2 hn8.2; omega
      have edx:dX zs i o=nth zs (i*4) - nth zs (o*4+2):=dX_eq zs i o;have edy:dY zs i o=nth zs (i*4+1) - nth zs (o*4+3):=dY_eq zs i o;have bdx : -120≤dX zs i o∧dX zs i o≤120:=by omega
      have bdy : -120≤dY zs i o∧dY zs i o≤120:=by omega
      have HDX:=Lib.hid edx;have HDY:=Lib.hid edy;have s1:IntKind.i64.wrap (nth zs (i*4) - nth zs (o*4+2))=dX zs i o:=by rw [← HDX.out]; exact IntWalk.i64_in _ (by omega)
      have s2:IntKind.i64.wrap (nth zs (i*4+1) - nth zs (o*4+3))=dY zs i o:=by rw [← HDY.out]; exact IntWalk.i64_in _ (by omega)
      have TL:Hid (0<dX zs i o→lowTo zs n (i*n+o) ++ [dY zs i o,dX zs i o]=lowTo zs n (i*n+(o+1))∧lowN zs n (i*n+o)+1=lowN zs n (i*n+(o+1))):=fun hp=>by
       rw [show i*n+(o+1)=i*n+o+1 by omega];simp only [lowTo,lowN,hdm.1,hdm.2,hp,if_true];exact ⟨trivial,trivial⟩
      have TL':Hid (¬ 0<dX zs i o→lowTo zs n (i*n+(o+1))=lowTo zs n (i*n+o)∧lowN zs n (i*n+(o+1))=lowN zs n (i*n+o)):=fun hp=>by
       rw [show i*n+(o+1)=i*n+o+1 by omega];simp only [lowTo,lowN,hdm.1,hdm.2,hp,if_false];exact ⟨trivial,trivial⟩
      have TH:Hid (dX zs i o<0→highTo zs n (i*n+o) ++ [-dY zs i o,-dX zs i o]=highTo zs n (i*n+(o+1))∧highN zs n (i*n+o)+1=highN zs n (i*n+(o+1))):=fun hp=>by
       rw [show i*n+(o+1)=i*n+o+1 by omega];simp only [highTo,highN,hdm.1,hdm.2,hp,if_true];exact ⟨trivial,trivial⟩
      have TH':Hid (¬ dX zs i o<0→highTo zs n (i*n+(o+1))=highTo zs n (i*n+o)∧highN zs n (i*n+(o+1))=highN zs n (i*n+o)):=fun hp=>by
       rw [show i*n+(o+1)=i*n+o+1 by omega];simp only [highTo,highN,hdm.1,hdm.2,hp,if_false];exact ⟨trivial,trivial⟩
      have TG:Hid ((dX zs i o=0→dY zs i o≤0)→noBad zs n (i*n+(o+1))):=fun e=>by
       rw [show i*n+(o+1)=i*n+o+1 by omega];exact noBad_step HSO.out.good (by rw [hdm.1,hdm.2]; exact e)
      have TB:Hid (dX zs i o=0→0<dY zs i o→strB zs n=false):=fun e1 e2=>strB_f2 (not_strI_bad hio (by rw [hdm.1,hdm.2]; exact e1) (by rw [hdm.1,hdm.2]; exact e2))
      clear hq hdm edx edy HSO HRO;generalize dX zs i o=D at *
      generalize dY zs i o=G at *
      by_cases hp:0<D
      ·have HG:∀ i,i<1*2→((wr.alloc (.cells #[.int .i64 (nth zs (o*4)),.int .i64 (nth zs (o*4+1)),.int .i64 (nth zs (o*4+2)),.int .i64 (nth zs (o*4+3))] 45)).alloc (.cells #[.int .i64 (G),.int .i64 (D)] 76)).cell? ⟨wr.heap.size+1,i,none⟩=some (.int .i64 (nth [G,D] i)):=fun i hi=>by
        have:=cell_newP (wr.alloc (.cells #[.int .i64 (nth zs (o*4)),.int .i64 (nth zs (o*4+1)),.int .i64 (nth zs (o*4+2)),.int .i64 (nth zs (o*4+3))] 45)) (G) (D) 76 i hi;rw [World.size_alloc] at this;exact this
       have HGH:=Lib.hid HG;clear HG;go_wp2;go_quiet (fail)
       go_wp2_with (at_builtin; refine wpList_appR2 _ rfl (.tmp 47) (.tmp 51) 74 rfl W1.heap.size 76 2 16 #[.int .i64 0,.int .i64 0] Tryzx.underlying74 infoSlope rfl (by decide) (by decide) _ (lowN zs n (i*n+o)) (lowTo zs n (i*n+o)) rfl (by exact HSA.out.low.alloc _) (wr.heap.size+1) 1 1 [G,D] rfl rfl (by exact HGH.out) (by omega) W1.heap.size W1 (by exact below_drewN (HSA.out.below.alloc HSA.out.below.size _) _) (Nat.le_refl _) (by have:=HSA.out.below.size; simp at this; simp; omega) _ rfl _ _ _ (by exact HSA.out.high.alloc _) HSA.out.apart ?_ (by omega); intro g' cap' w3 hown3 hb3 hoth3 hap3 hrow3);have HR3:Hid (RowF w3 wo.heap.size 45 4 (ints [nth zs (i*4),nth zs (i*4+1),nth zs (i*4+2),nth zs (i*4+3)])):=hrow3 _ _ _ _ (by decide) (by exact HRA.out.alloc _);have HS3:Hid (StrRel W1 zs n (i*n+(o+1)) (.slice (some ⟨g',0,none⟩) (lowN zs n (i*n+o)+1) cap') u4 w3):=by
        have t1:=TL.out hp;have t2:=TH'.out (by omega);refine ⟨?_,?_,hap3,TG.out (fun e=>by omega),hb3⟩
        ·rw [← t1.1,← t1.2]; exact hown3
        ·rw [t2.1,t2.2]; exact hoth3
       go_wp2;go_roundw
       case rel=>exact ⟨o+1,by omega,by go_num,HS3,HR3⟩
       case measure=>simp [intOf]; omega
      by_cases hg:D<0
      ·have hp':¬ 0<D:=hp
       have n1:IntKind.i64.wrap (-G) = -G:=IntWalk.i64_in _ (by omega);have n2:IntKind.i64.wrap (-D) = -D:=IntWalk.i64_in _ (by omega);have HG:∀ i,i<1*2→((wr.alloc (.cells #[.int .i64 (nth zs (o*4)),.int .i64 (nth zs (o*4+1)),.int .i64 (nth zs (o*4+2)),.int .i64 (nth zs (o*4+3))] 45)).alloc (.cells #[.int .i64 (-G),.int .i64 (-D)] 76)).cell? ⟨wr.heap.size+1,i,none⟩=some (.int .i64 (nth [-G,-D] i)):=fun i hi=>by
        have:=cell_newP (wr.alloc (.cells #[.int .i64 (nth zs (o*4)),.int .i64 (nth zs (o*4+1)),.int .i64 (nth zs (o*4+2)),.int .i64 (nth zs (o*4+3))] 45)) (-G) (-D) 76 i hi;rw [World.size_alloc] at this;exact this
       have HGH:=Lib.hid HG;clear HG;go_wp2;go_quiet (fail)
       go_wp2_with (at_builtin; refine wpList_appR2 _ rfl (.tmp 56) (.tmp 62) 74 rfl W1.heap.size 76 2 16 #[.int .i64 0,.int .i64 0] Tryzx.underlying74 infoSlope rfl (by decide) (by decide) _ (highN zs n (i*n+o)) (highTo zs n (i*n+o)) rfl (by exact HSA.out.high.alloc _) (wr.heap.size+1) 1 1 [-G,-D] rfl rfl (by exact HGH.out) (by omega) W1.heap.size W1 (by exact below_drewN (HSA.out.below.alloc HSA.out.below.size _) _) (Nat.le_refl _) (by have:=HSA.out.below.size; simp at this; simp; omega) _ rfl _ _ _ (by exact HSA.out.low.alloc _) HSA.out.apart.symm ?_ (by omega); intro g' cap' w3 hown3 hb3 hoth3 hap3 hrow3);have HR3:Hid (RowF w3 wo.heap.size 45 4 (ints [nth zs (i*4),nth zs (i*4+1),nth zs (i*4+2),nth zs (i*4+3)])):=hrow3 _ _ _ _ (by decide) (by exact HRA.out.alloc _);have HS3:Hid (StrRel W1 zs n (i*n+(o+1)) u3 (.slice (some ⟨g',0,none⟩) (highN zs n (i*n+o)+1) cap') w3):=by
        have t1:=TH.out hg;have t2:=TL'.out (by omega);refine ⟨?_,?_,hap3.symm,TG.out (fun e=>by omega),hb3⟩
        ·rw [t2.1,t2.2]; exact hoth3
        ·rw [← t1.1,← t1.2]; exact hown3
       go_wp2;go_roundw
       case rel=>exact ⟨o+1,by omega,by go_num,HS3,HR3⟩
       case measure=>simp [intOf]; omega
      have hz0:D=0:=by omega
      by_cases hG:0<G
      ·have HF:=Lib.hid (TB.out hz0 hG)
       clear hz0;go_wp2;go_quiet (fail)
       go_wp2;go_ret;exact ⟨ret_bool HF.out.symm,B1.out.trans ((below_drewN HSA.out.below _).mono B1.out.size)⟩
      ·have HS3:Hid (StrRel W1 zs n (i*n+(o+1)) u3 u4 (wr.alloc (.cells #[.int .i64 (nth zs (o*4)),.int .i64 (nth zs (o*4+1)),.int .i64 (nth zs (o*4+2)),.int .i64 (nth zs (o*4+3))] 45))):=by
        have t1:=TL'.out hp;have t2:=TH'.out hg;refine ⟨?_,?_,HSA.out.apart,TG.out (fun _=>by omega),HSA.out.below⟩
        ·rw [t1.1,t1.2]; exact HSA.out.low
        ·rw [t2.1,t2.2]; exact HSA.out.high
       clear hz0;go_wp2;go_quiet (fail)
       go_wp2;go_roundw
       case rel=>exact ⟨o+1,by omega,by go_num,HS3.out.drewN _,HRA.out.drewN _⟩
       case measure=>simp [intOf]; omega
     ·obtain rfl:o=n:=by omega
      have HE:Hid (StrRel W1 zs o ((i+1)*o) u3 u4 wr):=by
       have h:=HSO.out;rw [show i*o+o=(i+1)*o by rw [Nat.add_mul]; omega] at h
       exact h
      go_wp2;go_roundw
      case rel=>exact ⟨i+1,by omega,by go_num,HE⟩
      case measure=>simp [intOf]; omega
   ·obtain rfl:i=n:=by omega
    obtain ⟨A3,c3,rfl,hc3⟩:=HS.out.low.slice;obtain ⟨A4,c4,rfl,hc4⟩:=HS.out.high.slice;have hll:=lowN_le (zs:=zs) (n:=i) (i*i);have hhl:=highN_le (zs:=zs) (n:=i) (i*i);have hnn:i*i≤64:=by have:=Nat.mul_le_mul hn8.2 hn8.2; omega
    have BW:=Lib.hid (B1.out.trans (HS.out.below.mono B1.out.size));by_cases h0:lowN zs i (i*i)=0
    ·have HF:=Lib.hid (HT.out (strI_noLow HS.out.good h0))
     have t0:((lowN zs i (i*i):Int) == 0)=true:=by simp [h0]
     clear h0;go_wp2;go_ret;exact ⟨ret_bool HF.out.symm,BW.out⟩
    have t0:((lowN zs i (i*i):Int) == 0)=false:=by simp [h0]
    by_cases h4:highN zs i (i*i)=0
    ·have HF:=Lib.hid (HT.out (strI_noHigh HS.out.good h4))
     have t4:((highN zs i (i*i):Int) == 0)=true:=by simp [h4]
     clear h4;go_wp2;go_ret;exact ⟨ret_bool HF.out.symm,BW.out⟩
    have t4:((highN zs i (i*i):Int) == 0)=false:=by simp [h4]
    have KB:=Lib.hid (strI_both (a:=lowN zs i (i*i) - 1) (b:=highN zs i (i*i) - 1) HS.out.good (by omega) (by omega));have OL:=Lib.hid (low_ok HA'.out);have OH:=Lib.hid (high_ok HA'.out);have QL:=Lib.hid (bestTo_ok slMore OL.out (lowN zs i (i*i) - 1) (by omega));have QH:=Lib.hid (bestTo_ok slLess OH.out (highN zs i (i*i) - 1) (by omega));have r3:=HS.out.low.recs;have r4:=HS.out.high.recs;have hcap3:=HS.out.low.cap;have hcap4:=HS.out.high.cap;go_wp2_with fail
    refine (bestMore_any _ _ _ _ _ r3 (by omega) (by omega) hc3 hcap3 OL.out).mono ?_;rintro e w2 ⟨rfl,hb2⟩;have r42:=r4.after hb2;have B2:=Lib.hid (below_then BW.out hb2);clear hb2 r3 r4;generalize (bestTo slMore (lowTo zs i (i*i)) (lowN zs i (i*i) - 1)).1=m1 at *
    generalize (bestTo slMore (lowTo zs i (i*i)) (lowN zs i (i*i) - 1)).2=m2 at *
    have hbA:Below w2.heap.size w2 (w2.alloc (.cells #[.int .i64 m1,.int .i64 m2] 76)):=(Below.refl _ _).alloc (Nat.le_refl _) _;have r43:=r42.after hbA;have bxm:Box2 (w2.alloc (.cells #[.int .i64 m1,.int .i64 m2] 76)) w2.heap.size (.int .i64 m1) (.int .i64 m2):=Box2.new _ _ _ _;have B3:=Lib.hid (below_then B2.out hbA);clear r42 hbA;go_wp2_with fail
    refine (bestLess_any _ _ _ _ _ r43 (by omega) (by omega) hc4 hcap4 OH.out).mono ?_;rintro e w4 ⟨rfl,hb4⟩;have bx4:=bxm.after hb4;have B4:=Lib.hid (below_then B3.out hb4);clear hb4 r43 bxm;generalize (bestTo slLess (highTo zs i (i*i)) (highN zs i (i*i) - 1)).1=q1 at *
    generalize (bestTo slLess (highTo zs i (i*i)) (highN zs i (i*i) - 1)).2=q2 at *
    have hbB':Below w4.heap.size w4 (w4.alloc (.cells #[.int .i64 q1,.int .i64 q2] 76)):=(Below.refl _ _).alloc (Nat.le_refl _) _;have bx5:=bx4.after hbB';have c0:=bx4.1;have c1:=bx4.2.1;have lt4:=bx4.2.2;have B5:=Lib.hid (below_then B4.out hbB');clear hbB' bx5;go_wp2_with fail
    refine (slopeLess_any q1 q2 m1 m2 _ QH.out QL.out).mono ?_;rintro e w6 ⟨rfl,hb6⟩;have B6:=Lib.hid (below_then B5.out hb6);have HFF:Hid ((!slLess q1 q2 m1 m2)=strB zs i):=by
     show (!slLess q1 q2 m1 m2)=strB zs i
     cases hs:slLess q1 q2 m1 m2
     ·exact (HT.out (KB.out.1 hs)).symm
     ·have:¬ StrI zs i:=fun hh=>by have:=KB.out.2 hh; rw [hs] at this; cases this
      exact (strB_f2 this).symm
    clear hb6;go_wp2;go_ret;exact ⟨ret_bool HFF.out,B6.out⟩
end X
namespace X
open Go.RowKit
def gdB (zs:List Int) (u v m:Nat):Bool:=decide (sd zs u v (2*m)≤0) && decide (0≤sd zs u v (2*m+1))
def goodTo (zs:List Int) (u v:Nat):Nat→Bool
 | 0=>true
 | m+1=>goodTo zs u v m && gdB zs u v m
theorem goodTo_iff {zs:List Int} {u v:Nat}:∀ n,goodTo zs u v n=true ↔ ∀ m,m<n→sd zs u v (2*m)≤0∧0≤sd zs u v (2*m+1)
 | 0=>by simp [goodTo]
 | n+1=>by
  rw [goodTo,Bool.and_eq_true,goodTo_iff n,gdB,Bool.and_eq_true,decide_eq_true_eq,decide_eq_true_eq];constructor
  ·rintro ⟨h1,h2⟩ m hm
   by_cases e:m=n
   ·subst e; exact h2
   ·exact h1 m (by omega)
  ·intro h
   exact ⟨fun m hm=>h m (by omega),h n (by omega)⟩
theorem strB_of_line {zs:List Int} {n u v:Nat} (hA:archB zs n=true) (hu:u<n*2) (hv:v<n*2) (hx:pX zs u<pX zs v) (h:goodTo zs u v n=true):strB zs n=true :=
 strB_t hA (strI_of_strS ⟨u,v,by omega,by omega,hx,(goodTo_iff n).1 h⟩)
end X
namespace X
open Go.RowKit
def endV (ok:Bool) (r:Int) (L:List Int) (m:Nat):Value:=if ok=true then thrV (bstV r L (m - 1) 0) (bstV r L (m - 1) 1) (bstV r L (m - 1) 2) (bstV r L (m - 1) 3) true else thrV 0 0 0 0 false
theorem endV_f {ok:Bool} (h:ok=false) (r:Int) (L:List Int) (m:Nat):endV ok r L m=thrV 0 0 0 0 false:=by subst h; rfl
theorem endV_t {ok:Bool} (h:ok=true) (r:Int) (L:List Int) (m:Nat):endV ok r L m=thrV (bstV r L (m - 1) 0) (bstV r L (m - 1) 1) (bstV r L (m - 1) 2) (bstV r L (m - 1) 3) true:=by subst h; rfl
def EndPost (w:World) (ok:Bool) (r:Int) (L:List Int) (m:Nat) (e:Ending) (w':World):Prop:=e = .returned (endV ok r L m)∧Below w.heap.size w w'
noncomputable def grtB (zs:List Int) (n:Nat) (ls:List Int) (q:Nat):Bool:=decide (0<thrN zs n ls q) && !strB zs n
def lstB (zs:List Int) (n:Nat) (ls:List Int) (q:Nat):Bool:=decide (0<thrN zs n ls q)
theorem grt_1 {zs ls:List Int} {n q:Nat} (h:thrN zs n ls q=0):grtB zs n ls q=false:=by simp [grtB,h]
theorem grt_2 {zs ls:List Int} {n q:Nat} (h:strB zs n=true):grtB zs n ls q=false:=by simp [grtB,h]
theorem grt_3 {zs ls:List Int} {n q:Nat} (h:strB zs n=false):grtB zs n ls q=decide (0<thrN zs n ls q):=by simp [grtB,h]
theorem below_set4' {w wr:World} {B g:Nat} (h:Below B w wr) (hg:B≤g) (a b c d:Value):Below B w ((((wr.setCell ⟨g,0,none⟩ a).setCell ⟨g,1,none⟩ b).setCell ⟨g,2,none⟩ c).setCell ⟨g,3,none⟩ d):=(((h.setCell (p:=⟨g,0,none⟩) hg _).setCell (p:=⟨g,1,none⟩) hg _).setCell (p:=⟨g,2,none⟩) hg _).setCell (p:=⟨g,3,none⟩) hg _
section
variable (A : Option Addr) (n c : Nat) (zs : List Int) (B : Option Addr) (q d : Nat) (ls : List Int) (w : World) (h : RecsAt w w.heap.size 4 A n zs) (hn : n ≤ 1048576) (hl : RecsAt w w.heap.size 3 B q ls) (hq : q ≤ 1048576)
include h hn hl hq
set_option maxRecDepth 100000 in
set_option maxHeartbeats 3200000 in
theorem iGrt_any:Calls Tryzx.prog 10 #[.agg #[.slice A n c],.slice B q d] w (EndPost w (grtB zs n ls q) 1 (thrL zs n ls q) (thrN zs n ls q)):=by
 have hz0:(w.alloc (.cells #[.slice A n c] 26)).heap.size=w.heap.size+1:=by simp
 have b0:Below w.heap.size w ((w.alloc (.cells #[.slice A n c] 26)).alloc (.cells #[.int .i64 0,.int .i64 0,.int .i64 0,.int .i64 0] 31)):=((Below.refl _ _).alloc (Nat.le_refl _) _).alloc (by simp) _;have bx0:Box ((w.alloc (.cells #[.slice A n c] 26)).alloc (.cells #[.int .i64 0,.int .i64 0,.int .i64 0,.int .i64 0] 31)) w.heap.size (.slice A n c):=(Box.new w (.slice A n c) 26).alloc _;have HA0:Hid (RowF ((w.alloc (.cells #[.slice A n c] 26)).alloc (.cells #[.int .i64 0,.int .i64 0,.int .i64 0,.int .i64 0] 31)) (w.heap.size+1) 31 4 (ints [0,0,0,0])):=Lib.hid (by
  have h:=RowF.of_row (World.rowIs_alloc (w.alloc (.cells #[.slice A n c] 26)) #[.int .i64 0,.int .i64 0,.int .i64 0,.int .i64 0] 31 (ints [0,0,0,0]) (fun i hi=>by simp at hi; match i,hi with | 0,_=>rfl | 1,_=>rfl | 2,_=>rfl | 3,_=>rfl))
  rw [hz0] at h;exact h)
 have HX:=Lib.hid bx0;have HH:=Lib.hid h;have HL:=Lib.hid hl;have HB0:=Lib.hid b0;have cx0:=bx0.1;have hw1:=h.after b0;have hw2:=hl.after b0;clear hz0 b0 bx0 h hl;go_enter Tryzx.func10,Tryz.ntmps10;go_wp2_with fail
 refine (iThr_any _ _ _ zs _ _ _ ls _ (by exact hw1) hn (by exact hw2) hq).mono ?_;rintro e w1 ⟨v1,rfl,ho1,hb1⟩;have HA1:=Lib.hid (HA0.out.after hb1);have HB1:=Lib.hid (below_then HB0.out hb1);have cx1:=(HX.out.after hb1).1;have hr1:=hw1.after hb1;have HX1:=Lib.hid (HX.out.after hb1);obtain ⟨A1,c1,rfl,hcap⟩:=ho1.slice;have hcm:=ho1.cap;have r1:=ho1.recs;clear hb1 ho1 cx0 HA0 HB0 HX hw1 hw2;by_cases hm:thrN zs n ls q=0
 ·have HE:=Lib.hid (endV_f (grt_1 (zs:=zs) (n:=n) (ls:=ls) (q:=q) hm) 1 (thrL zs n ls q) (thrN zs n ls q))
  have hme:(((thrN zs n ls q:Nat):Int) == 0)=true:=by rw [hm]; rfl
  clear r1 cx1 hr1 hm;obtain ⟨⟨d0,d1,d2,d3⟩,f0,f1,f2,f3⟩:=row4 HA1.out;go_wp2;refine bodyPost_ret (v:=thrV 0 0 0 0 false) (by simp [thrV,results,Tryz.results10,go_sem, *]) rfl ⟨by rw [HE.out],?_⟩;exact below_set4' HB1.out (Nat.le_succ _) _ _ _ _
 ·have hme:(((thrN zs n ls q:Nat):Int) == 0)=false:=by simp; omega
  go_wp2_with fail
  refine (iIsStraight_any _ _ _ zs _ (by exact hr1) hn).mono ?_;cases hS:strB zs n
  ·have HE:=Lib.hid (endV_t (show grtB zs n ls q=true by rw [grt_3 hS]; exact decide_eq_true (by omega)) 1 (thrL zs n ls q) (thrN zs n ls q))
   rintro e w2 ⟨rfl,hb2⟩;have HA2:=Lib.hid (HA1.out.after hb2);have HB2:=Lib.hid (below_then HB1.out hb2);have r2:=r1.after hb2;have hfew:thrN zs n ls q≤1048576:=by have:=(corn_acc (rowsZ zs n ls q) (rowsN zs n ls q)).few; unfold thrN; omega
   clear hb2 cx1 hr1 r1;go_wp2_with fail
   refine (bestGreatestThrust_any _ _ _ (thrL zs n ls q) _ (by exact r2) (by omega) hfew hcap hcm).mono ?_;rintro e w3 ⟨rfl,hb3⟩;have HA3:=Lib.hid (HA2.out.after hb3);have HB3:=Lib.hid (below_then HB2.out hb3);generalize bstV 1 (thrL zs n ls q) (thrN zs n ls q - 1) 0=q0 at *
   generalize bstV 1 (thrL zs n ls q) (thrN zs n ls q - 1) 1=q1 at *
   generalize bstV 1 (thrL zs n ls q) (thrN zs n ls q - 1) 2=q2 at *
   generalize bstV 1 (thrL zs n ls q) (thrN zs n ls q - 1) 3=q3 at *
   clear hb3 r2;obtain ⟨⟨d0,d1,d2,d3⟩,f0,f1,f2,f3⟩:=row4 HA3.out;go_wp2;refine bodyPost_ret (v:=thrV q0 q1 q2 q3 true) (by simp [thrV,results,Tryz.results10,go_sem, *]) rfl ⟨by rw [HE.out],?_⟩;exact below_set4' HB3.out (Nat.le_succ _) _ _ _ _
  ·have HE:=Lib.hid (endV_f (grt_2 (ls:=ls) (q:=q) hS) 1 (thrL zs n ls q) (thrN zs n ls q))
   rintro e w2 ⟨rfl,hb2⟩;have HA2:=Lib.hid (HA1.out.after hb2);have HB2:=Lib.hid (below_then HB1.out hb2);clear hb2 cx1 hr1 r1;obtain ⟨⟨d0,d1,d2,d3⟩,f0,f1,f2,f3⟩:=row4 HA2.out;go_wp2;refine bodyPost_ret (v:=thrV 0 0 0 0 false) (by simp [thrV,results,Tryz.results10,go_sem, *]) rfl ⟨by rw [HE.out],?_⟩;exact below_set4' HB2.out (Nat.le_succ _) _ _ _ _
set_option maxRecDepth 100000 in
set_option maxHeartbeats 3200000 in
theorem iLst_any:Calls Tryzx.prog 9 #[.agg #[.slice A n c],.slice B q d] w (EndPost w (lstB zs n ls q) (-1) (thrL zs n ls q) (thrN zs n ls q)):=by
 have hz0:(w.alloc (.cells #[.slice A n c] 26)).heap.size=w.heap.size+1:=by simp
 have b0:Below w.heap.size w ((w.alloc (.cells #[.slice A n c] 26)).alloc (.cells #[.int .i64 0,.int .i64 0,.int .i64 0,.int .i64 0] 31)):=((Below.refl _ _).alloc (Nat.le_refl _) _).alloc (by simp) _;have bx0:Box ((w.alloc (.cells #[.slice A n c] 26)).alloc (.cells #[.int .i64 0,.int .i64 0,.int .i64 0,.int .i64 0] 31)) w.heap.size (.slice A n c):=(Box.new w (.slice A n c) 26).alloc _;have HA0:Hid (RowF ((w.alloc (.cells #[.slice A n c] 26)).alloc (.cells #[.int .i64 0,.int .i64 0,.int .i64 0,.int .i64 0] 31)) (w.heap.size+1) 31 4 (ints [0,0,0,0])):=Lib.hid (by
  have h:=RowF.of_row (World.rowIs_alloc (w.alloc (.cells #[.slice A n c] 26)) #[.int .i64 0,.int .i64 0,.int .i64 0,.int .i64 0] 31 (ints [0,0,0,0]) (fun i hi=>by simp at hi; match i,hi with | 0,_=>rfl | 1,_=>rfl | 2,_=>rfl | 3,_=>rfl))
  rw [hz0] at h;exact h)
 have HX:=Lib.hid bx0;have HH:=Lib.hid h;have HL:=Lib.hid hl;have HB0:=Lib.hid b0;have cx0:=bx0.1;have hw1:=h.after b0;have hw2:=hl.after b0;clear hz0 b0 bx0 h hl;go_enter Tryzx.func9,Tryz.ntmps9;go_wp2_with fail
 refine (iThr_any _ _ _ zs _ _ _ ls _ (by exact hw1) hn (by exact hw2) hq).mono ?_;rintro e w1 ⟨v1,rfl,ho1,hb1⟩;have HA1:=Lib.hid (HA0.out.after hb1);have HB1:=Lib.hid (below_then HB0.out hb1);obtain ⟨A1,c1,rfl,hcap⟩:=ho1.slice;have hcm:=ho1.cap;have r1:=ho1.recs;clear hb1 ho1 cx0 HA0 HB0 HX hw1 hw2;by_cases hm:thrN zs n ls q=0
 ·have HE:=Lib.hid (endV_f (show lstB zs n ls q=false by simp [lstB,hm]) (-1) (thrL zs n ls q) (thrN zs n ls q))
  have hme:(((thrN zs n ls q:Nat):Int) == 0)=true:=by rw [hm]; rfl
  clear r1 hm;obtain ⟨⟨d0,d1,d2,d3⟩,f0,f1,f2,f3⟩:=row4 HA1.out;go_wp2;refine bodyPost_ret (v:=thrV 0 0 0 0 false) (by simp [thrV,results,Tryz.results9,go_sem, *]) rfl ⟨by rw [HE.out],?_⟩;exact below_set4' HB1.out (Nat.le_succ _) _ _ _ _
 ·have hme:(((thrN zs n ls q:Nat):Int) == 0)=false:=by simp; omega
  have HE:=Lib.hid (endV_t (show lstB zs n ls q=true from decide_eq_true (by omega)) (-1) (thrL zs n ls q) (thrN zs n ls q));have hfew:thrN zs n ls q≤1048576:=by have:=(corn_acc (rowsZ zs n ls q) (rowsN zs n ls q)).few; unfold thrN; omega
  go_wp2_with fail
  refine (bestLeastThrust_any _ _ _ (thrL zs n ls q) _ (by exact r1) (by omega) hfew hcap hcm).mono ?_;rintro e w3 ⟨rfl,hb3⟩;have HA3:=Lib.hid (HA1.out.after hb3);have HB3:=Lib.hid (below_then HB1.out hb3);generalize bstV (-1) (thrL zs n ls q) (thrN zs n ls q - 1) 0=q0 at *
  generalize bstV (-1) (thrL zs n ls q) (thrN zs n ls q - 1) 1=q1 at *
  generalize bstV (-1) (thrL zs n ls q) (thrN zs n ls q - 1) 2=q2 at *
  generalize bstV (-1) (thrL zs n ls q) (thrN zs n ls q - 1) 3=q3 at *
  clear hb3 r1;obtain ⟨⟨d0,d1,d2,d3⟩,f0,f1,f2,f3⟩:=row4 HA3.out;go_wp2;refine bodyPost_ret (v:=thrV q0 q1 q2 q3 true) (by simp [thrV,results,Tryz.results9,go_sem, *]) rfl ⟨by rw [HE.out],?_⟩;exact below_set4' HB3.out (Nat.le_succ _) _ _ _ _
end
end X
namespace X
open Go.RowKit
theorem spdiv_bd {a g:Int} (h:okG a) (hg:1≤g):IntKind.i64.wrap (a.tdiv g)=a.tdiv g:=by
 unfold okG at h;have h1:(a.tdiv g).natAbs≤a.natAbs:=by rw [Int.natAbs_tdiv]; exact Nat.div_le_self _ _
 exact IntWalk.i64_in _ (by omega)
end X
end Go.Proofs.YtpblihmhpalkfaaGreat
