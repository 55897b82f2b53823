/-
  Texts that the law stands on, part 17.
-/
import Derived.Test.YtjcgklifabcfkaaGreatN1
import Derived.Test.YtjcgklifabcfkaaGreatN16
import Derived.Test.YtjcgklifabcfkaaGreatN10
import Derived.IntWalk
set_option maxRecDepth 100000
set_option linter.unusedVariables false
set_option linter.unusedSimpArgs false
namespace Go.Proofs.YtjcgklifabcfkaaGreat
namespace X
open Go.RowKit
def btw (a0 a1 a2 a3 b0 b1 b2 b3:Int):List Int := [a0,a1,b0,b1,b2,b3,a2,a3]
def BtwPost (w:World) (zs:List Int) (e:Ending) (w':World):Prop :=
 ∃ A n c,e = .returned (.tuple #[.agg #[.slice A n c],.bool (stoneB zs 4)])∧(stoneB zs 4=true→n=4∧c=4∧∃ g,A=some ⟨g,0,none⟩∧RowF w' g 108 8 (ints zs)∧w.heap.size≤g)∧(stoneB zs 4=false→A=none∧n=0∧c=0)∧Below w.heap.size w w'
theorem btwPost_t {w w':World} {zs:List Int} {g:Nat} (h:stoneB zs 4=true) (hr:RowF w' g 108 8 (ints zs)) (hg:w.heap.size≤g) (hb:Below w.heap.size w w'):BtwPost w zs (.returned (.tuple #[.agg #[.slice (some ⟨g,0,none⟩) 4 4],.bool true])) w' :=
 ⟨_,_,_,by rw [h],fun _=>⟨rfl,rfl,g,rfl,hr,hg⟩,fun h'=>absurd h' (by rw [h]; simp),hb⟩
theorem btwPost_f {w w':World} {zs:List Int} (h:stoneB zs 4=false) (hb:Below w.heap.size w w'):BtwPost w zs (.returned (.tuple #[.agg #[.slice none 0 0],.bool false])) w' :=
 ⟨_,_,_,by rw [h],fun h'=>absurd h' (by rw [h]; simp),fun _=>⟨rfl,rfl,rfl⟩,hb⟩
theorem btw_row {w:World} {a0 a1 a2 a3 b0 b1 b2 b3:Int}:(w.alloc (.cells #[.int .i64 a0,.int .i64 a1,.int .i64 b0,.int .i64 b1,.int .i64 b2,.int .i64 b3,.int .i64 a2,.int .i64 a3] 108)).rowIs w.heap.size 108 8 (ints (btw a0 a1 a2 a3 b0 b1 b2 b3)) :=
 World.rowIs_alloc w #[.int .i64 a0,.int .i64 a1,.int .i64 b0,.int .i64 b1,.int .i64 b2,.int .i64 b3,.int .i64 a2,.int .i64 a3] _ _ (fun j hj=>by simp at hj; match j,hj with | 0,_=>rfl | 1,_=>rfl | 2,_=>rfl | 3,_=>rfl | 4,_=>rfl | 5,_=>rfl | 6,_=>rfl | 7,_=>rfl)
theorem cell_alloc_lt {w:World} {o:Obj} {g i:Nat} (h:g<w.heap.size):(w.alloc o).cell? ⟨g,i,none⟩=w.cell? ⟨g,i,none⟩:=World.cell?_of_block (a:=⟨g,i,none⟩) (Below.heap_alloc w o g h)
theorem cell_new2 {w:World} {u:Value} {t:TypeId} {g:Nat} (h:g=w.heap.size):(w.alloc (.cells #[u] t)).cell? ⟨g,0,none⟩=some u:=by subst h; exact cell_new0 w u t
theorem frozen_new2 {w:World} {u:Value} {t:TypeId} {g:Nat} (h:g=w.heap.size):(w.alloc (.cells #[u] t)).frozen? ⟨g,0,none⟩=false:=by subst h; exact World.rowIs.frozen (World.rowIs_alloc w #[u] t (fun _=>u) (fun i hi=>by simp at hi; subst hi; rfl)) 0
theorem frozen_alloc_lt {w:World} {o:Obj} {g i:Nat} (h:g<w.heap.size):(w.alloc o).frozen? ⟨g,i,none⟩=w.frozen? ⟨g,i,none⟩:=World.frozen?_of_block (a:=⟨g,i,none⟩) (Below.heap_alloc w o g h)
theorem btw_ready (a0 a1 a2 a3 b0 b1 b2 b3:Int) (w:World):∃ W5:World,W5=(((((w.alloc (.cells #[.int .i64 a0,.int .i64 a1,.int .i64 a2,.int .i64 a3] 110)).alloc (.cells #[.int .i64 b0,.int .i64 b1,.int .i64 b2,.int .i64 b3] 110)).alloc (.cells #[.slice none 0 0] 127)).alloc (.cells #[.int .i64 a0,.int .i64 a1,.int .i64 b0,.int .i64 b1,.int .i64 b2,.int .i64 b3,.int .i64 a2,.int .i64 a3] 108)).alloc (.cells #[.slice (some ⟨w.heap.size+1+1+1,0,none⟩) 4 4] 127))∧RowF W5 (w.heap.size+1+1+1) 108 8 (ints (btw a0 a1 a2 a3 b0 b1 b2 b3))∧W5.cell? ⟨w.heap.size+1+1,0,none⟩=some (.slice none 0 0)∧W5.frozen? ⟨w.heap.size+1+1,0,none⟩=false∧W5.cell? ⟨w.heap.size+1+1+1+1,0,none⟩=some (.slice (some ⟨w.heap.size+1+1+1,0,none⟩) 4 4)∧W5.heap.size=w.heap.size+1+1+1+1+1∧Below w.heap.size w W5:=by
 refine ⟨_,rfl,?_,?_,?_,?_,?_,?_⟩
 ·have hr:=btw_row (w:=(((w.alloc (.cells #[.int .i64 a0,.int .i64 a1,.int .i64 a2,.int .i64 a3] 110)).alloc (.cells #[.int .i64 b0,.int .i64 b1,.int .i64 b2,.int .i64 b3] 110)).alloc (.cells #[.slice none 0 0] 127))) (a0:=a0) (a1:=a1) (a2:=a2) (a3:=a3) (b0:=b0) (b1:=b1) (b2:=b2) (b3:=b3)
  have e:(((w.alloc (.cells #[.int .i64 a0,.int .i64 a1,.int .i64 a2,.int .i64 a3] 110)).alloc (.cells #[.int .i64 b0,.int .i64 b1,.int .i64 b2,.int .i64 b3] 110)).alloc (.cells #[.slice none 0 0] 127)).heap.size=w.heap.size+1+1+1:=by simp
  rw [e] at hr;exact (RowF.of_row hr).alloc _
 ·rw [cell_alloc_lt (by simp),cell_alloc_lt (by simp)]
  exact cell_new2 (by simp)
 ·rw [frozen_alloc_lt (by simp),frozen_alloc_lt (by simp)]
  exact frozen_new2 (by simp)
 ·exact cell_new2 (by simp)
 ·simp
 ·exact (((((Below.refl _ _).alloc (Nat.le_refl _) _).alloc (by simp) _).alloc (by simp; omega) _).alloc (by simp; omega) _).alloc (by simp; omega) _
set_option maxHeartbeats 1200000 in
theorem sBetween_any (a0 a1 a2 a3 b0 b1 b2 b3:Int) (w:World) :
  Calls Tryzx.prog 91 #[.agg #[.int .i64 a0,.int .i64 a1,.int .i64 a2,.int .i64 a3],.agg #[.int .i64 b0,.int .i64 b1,.int .i64 b2,.int .i64 b3]] w (BtwPost w (btw a0 a1 a2 a3 b0 b1 b2 b3)):=by
 obtain ⟨W5,hW,hrow,c2,f2,c4,hsz,hbw⟩:=btw_ready a0 a1 a2 a3 b0 b1 b2 b3 w;have hrec:RecsAt W5 W5.heap.size 2 (some ⟨w.heap.size+1+1+1,0,none⟩) 4 (btw a0 a1 a2 a3 b0 b1 b2 b3):=RowF.recs (n:=4) (K:=2) hrow rfl;have hlt:=hrow.lt;have HW:=Lib.hid hW;have HR:=Lib.hid hrow;have HZ:=Lib.hid hsz;have HBW:=Lib.hid hbw;have HC2:=Lib.hid c2;have HF2:=Lib.hid f2;have HC4:=Lib.hid c4;clear hW hrow hsz hbw c2 f2 c4;cases hS:stoneB (btw a0 a1 a2 a3 b0 b1 b2 b3) 4;all_goals
  go_enter Tryzx.func91,Tryz.ntmps91;go_wp2_with fail
  rw [← HW.out];refine (sStoneOk_any _ 4 4 _ _ hrec).mono ?_;rw [hS];rintro e w1 ⟨rfl,hb1⟩;have g2:w1.cell? ⟨w.heap.size+1+1,0,none⟩=some (.slice none 0 0):=(hb1.cell (p:=⟨w.heap.size+1+1,0,none⟩) (by have:=HZ.out; simp; omega)).trans HC2.out
  have k2:w1.frozen? ⟨w.heap.size+1+1,0,none⟩=false:=(hb1.frozen (p:=⟨w.heap.size+1+1,0,none⟩) (by have:=HZ.out; simp; omega)).trans HF2.out
  have g4:w1.cell? ⟨w.heap.size+1+1+1+1,0,none⟩=some (.slice (some ⟨w.heap.size+1+1+1,0,none⟩) 4 4):=(hb1.cell (p:=⟨w.heap.size+1+1+1+1,0,none⟩) (by have:=HZ.out; simp; omega)).trans HC4.out
  have HR1:=Lib.hid (HR.out.after hb1);have HB1:=Lib.hid (HBW.out.trans (hb1.mono (by have:=HZ.out; omega)))
  clear hrec hlt hb1;go_wp2
 ·refine bodyPost_ret (v := .tuple #[.agg #[.slice none 0 0],.bool false]) (by simp [results,Tryz.results91,go_sem, *]) rfl ?_
  exact btwPost_f hS (HB1.out.setCell (by simp; omega) _)
 ·refine bodyPost_ret (v := .tuple #[.agg #[.slice (some ⟨w.heap.size+1+1+1,0,none⟩) 4 4],.bool true]) (by simp [results,Tryz.results91,go_sem, *]) rfl ?_
  exact btwPost_t hS (HR1.out.set_other (by simp) _) (by omega) (HB1.out.setCell (by simp; omega) _)
set_option maxHeartbeats 1200000 in
theorem iBetween_any (a0 a1 a2 a3 b0 b1 b2 b3:Int) (w:World) :
  Calls Tryzx.prog 99 #[.agg #[.int .i64 a0,.int .i64 a1,.int .i64 a2,.int .i64 a3],.agg #[.int .i64 b0,.int .i64 b1,.int .i64 b2,.int .i64 b3]] w (BtwPost w (btw a0 a1 a2 a3 b0 b1 b2 b3)):=by
 obtain ⟨W5,hW,hrow,c2,f2,c4,hsz,hbw⟩:=btw_ready a0 a1 a2 a3 b0 b1 b2 b3 w;have hrec:RecsAt W5 W5.heap.size 2 (some ⟨w.heap.size+1+1+1,0,none⟩) 4 (btw a0 a1 a2 a3 b0 b1 b2 b3):=RowF.recs (n:=4) (K:=2) hrow rfl;have hlt:=hrow.lt;have HW:=Lib.hid hW;have HR:=Lib.hid hrow;have HZ:=Lib.hid hsz;have HBW:=Lib.hid hbw;have HC2:=Lib.hid c2;have HF2:=Lib.hid f2;have HC4:=Lib.hid c4;clear hW hrow hsz hbw c2 f2 c4;cases hS:stoneB (btw a0 a1 a2 a3 b0 b1 b2 b3) 4;all_goals
  go_enter Tryzx.func99,Tryz.ntmps99;go_wp2_with fail
  rw [← HW.out];refine (iStoneOk_any _ 4 4 _ _ hrec).mono ?_;rw [hS];rintro e w1 ⟨rfl,hb1⟩;have g2:w1.cell? ⟨w.heap.size+1+1,0,none⟩=some (.slice none 0 0):=(hb1.cell (p:=⟨w.heap.size+1+1,0,none⟩) (by have:=HZ.out; simp; omega)).trans HC2.out
  have k2:w1.frozen? ⟨w.heap.size+1+1,0,none⟩=false:=(hb1.frozen (p:=⟨w.heap.size+1+1,0,none⟩) (by have:=HZ.out; simp; omega)).trans HF2.out
  have g4:w1.cell? ⟨w.heap.size+1+1+1+1,0,none⟩=some (.slice (some ⟨w.heap.size+1+1+1,0,none⟩) 4 4):=(hb1.cell (p:=⟨w.heap.size+1+1+1+1,0,none⟩) (by have:=HZ.out; simp; omega)).trans HC4.out
  have HR1:=Lib.hid (HR.out.after hb1);have HB1:=Lib.hid (HBW.out.trans (hb1.mono (by have:=HZ.out; omega)))
  clear hrec hlt hb1;go_wp2
 ·refine bodyPost_ret (v := .tuple #[.agg #[.slice none 0 0],.bool false]) (by simp [results,Tryz.results99,go_sem, *]) rfl ?_
  exact btwPost_f hS (HB1.out.setCell (by simp; omega) _)
 ·refine bodyPost_ret (v := .tuple #[.agg #[.slice (some ⟨w.heap.size+1+1+1,0,none⟩) 4 4],.bool true]) (by simp [results,Tryz.results99,go_sem, *]) rfl ?_
  exact btwPost_t hS (HR1.out.set_other (by simp) _) (by omega) (HB1.out.setCell (by simp; omega) _)
end X
namespace X
open Go.RowKit
def btwA (zs:List Int) (k:Nat):List Int:=btw (nth zs (k*4)) (nth zs (k*4+1)) (nth zs (k*4+2)) (nth zs (k*4+3)) (nth zs ((k+1)*4)) (nth zs ((k+1)*4+1)) (nth zs ((k+1)*4+2)) (nth zs ((k+1)*4+3))
def pairB (zs:List Int) (k:Nat):Bool:=stoneB (btwA zs k) 4 && decide (nth zs (k*4)<nth zs ((k+1)*4))
theorem pairB_f1 {zs:List Int} {k:Nat} (h:stoneB (btwA zs k) 4=false):pairB zs k=false:=by simp [pairB,h]
theorem pairB_f2 {zs:List Int} {k:Nat} (h:nth zs ((k+1)*4)≤nth zs (k*4)):pairB zs k=false:=by
 have:decide (nth zs (k*4)<nth zs ((k+1)*4))=false:=decide_eq_false (by omega);simp [pairB,this]
theorem pairB_t {zs:List Int} {k:Nat} (h:stoneB (btwA zs k) 4=true) (h2:¬ nth zs ((k+1)*4)≤nth zs (k*4)):pairB zs k=true:=by
 have:decide (nth zs (k*4)<nth zs ((k+1)*4))=true:=decide_eq_true (by omega);simp [pairB,this,h]
def pairTo (zs:List Int) (k:Nat):Prop:=∀ i,i<k→pairB zs i=true
theorem pairTo_0 (zs:List Int):pairTo zs 0:=fun i hi=>absurd hi (by omega)
theorem pairTo_step {zs:List Int} {k:Nat} (h:pairTo zs k) (e:pairB zs k=true):pairTo zs (k+1):=by
 intro i hi;by_cases hik:i=k
 ·subst hik; exact e
 ·exact h i (by omega)
def archB (zs:List Int) (n:Nat):Bool:=inB (n:Int) 3 8 && (List.range (n - 1)).all (pairB zs)
theorem archB_f1 {zs:List Int} {n:Nat} (h:inB (n:Int) 3 8=false):archB zs n=false:=by simp [archB,h]
theorem archB_f2 {zs:List Int} {n k:Nat} (hk:k+1<n) (h:pairB zs k=false):archB zs n=false:=by
 have:(List.range (n - 1)).all (pairB zs)=false:=by
  rw [List.all_eq_false];exact ⟨k,by simp; omega,by simp [h]⟩
 simp [archB,this]
theorem archB_t {zs:List Int} {n:Nat} (h1:inB (n:Int) 3 8=true) (h2:pairTo zs (n - 1)):archB zs n=true:=by
 have:(List.range (n - 1)).all (pairB zs)=true:=by
  rw [List.all_eq_true];exact fun i hi=>h2 i (by simpa using hi)
 simp [archB,this,h1]
theorem archB_out {zs:List Int} {n:Nat} (h:archB zs n=true):(3≤n∧n≤8)∧pairTo zs (n - 1):=by
 simp only [archB,Bool.and_eq_true,inB_iff,List.all_eq_true] at h;exact ⟨by omega,fun i hi=>h.2 i (by simpa using hi)⟩
theorem jtCells {wr:World} {b off n j:Nat} {zs:List Int} (hc:∀ i,i<n*4→wr.cell? ⟨b,off+i,none⟩=some (.int .i64 (nth zs i))) (hj:j<n) :
  wr.cell? ⟨b,off+j*4,none⟩=some (.int .i64 (nth zs (j*4)))∧wr.cell? ⟨b,off+j*4+1,none⟩=some (.int .i64 (nth zs (j*4+1)))∧wr.cell? ⟨b,off+j*4+2,none⟩=some (.int .i64 (nth zs (j*4+2)))∧wr.cell? ⟨b,off+j*4+3,none⟩=some (.int .i64 (nth zs (j*4+3))) :=
 ⟨hc (j*4) (by omega),by have:=hc (j*4+1) (by omega); rwa [← Nat.add_assoc] at this,by have:=hc (j*4+2) (by omega); rwa [← Nat.add_assoc] at this,by have:=hc (j*4+3) (by omega); rwa [← Nat.add_assoc] at this⟩
theorem keepA {w w1 w2:World} {b off n c m:Nat} {zs:List Int} (h:w1.cell? ⟨w.heap.size,0,none⟩=some (.slice (some ⟨b,off,none⟩) n c)∧(w1.cell? ⟨b,off+m*4,none⟩=some (.int .i64 (nth zs (m*4)))∧w1.cell? ⟨b,off+m*4+1,none⟩=some (.int .i64 (nth zs (m*4+1)))∧w1.cell? ⟨b,off+m*4+2,none⟩=some (.int .i64 (nth zs (m*4+2)))∧w1.cell? ⟨b,off+m*4+3,none⟩=some (.int .i64 (nth zs (m*4+3))))∧(w1.cell? ⟨b,off+(m+1)*4,none⟩=some (.int .i64 (nth zs ((m+1)*4)))∧w1.cell? ⟨b,off+(m+1)*4+1,none⟩=some (.int .i64 (nth zs ((m+1)*4+1)))∧w1.cell? ⟨b,off+(m+1)*4+2,none⟩=some (.int .i64 (nth zs ((m+1)*4+2)))∧w1.cell? ⟨b,off+(m+1)*4+3,none⟩=some (.int .i64 (nth zs ((m+1)*4+3))))) (e:∀ i,w2.cell? ⟨b,i,none⟩=w1.cell? ⟨b,i,none⟩) (e0:w2.cell? ⟨w.heap.size,0,none⟩=w1.cell? ⟨w.heap.size,0,none⟩) :
  w2.cell? ⟨w.heap.size,0,none⟩=some (.slice (some ⟨b,off,none⟩) n c)∧(w2.cell? ⟨b,off+m*4,none⟩=some (.int .i64 (nth zs (m*4)))∧w2.cell? ⟨b,off+m*4+1,none⟩=some (.int .i64 (nth zs (m*4+1)))∧w2.cell? ⟨b,off+m*4+2,none⟩=some (.int .i64 (nth zs (m*4+2)))∧w2.cell? ⟨b,off+m*4+3,none⟩=some (.int .i64 (nth zs (m*4+3))))∧(w2.cell? ⟨b,off+(m+1)*4,none⟩=some (.int .i64 (nth zs ((m+1)*4)))∧w2.cell? ⟨b,off+(m+1)*4+1,none⟩=some (.int .i64 (nth zs ((m+1)*4+1)))∧w2.cell? ⟨b,off+(m+1)*4+2,none⟩=some (.int .i64 (nth zs ((m+1)*4+2)))∧w2.cell? ⟨b,off+(m+1)*4+3,none⟩=some (.int .i64 (nth zs ((m+1)*4+3)))):=by
 simp only [e,e0];exact h
set_option maxHeartbeats 1000000 in
theorem sArchOk_any (A:Option Addr) (n c:Nat) (zs:List Int) (w:World) (h:RecsAt w w.heap.size 4 A n zs) (hn:n≤1048576) :
  Calls Tryzx.prog 79 #[.agg #[.slice A n c]] w fun e w'=>e = .returned (.bool (archB zs n))∧Below w.heap.size w w':=by
 have HA:=Lib.hid ((Below.refl w.heap.size w).alloc (Nat.le_refl _) (.cells #[.slice A n c] 45));have H:=Lib.hid h;clear h
 ·go_enter Tryzx.func79,Tryz.ntmps79
  go_wp2;go_loopw [3] (fun i wr=>∃ k:Nat,(k≤n - 1)∧i = .int .i64 ((k+1:Nat):Int)∧pairTo zs k∧wr.cell? ⟨w.heap.size,0,none⟩=some (.slice A n c)∧Below w.heap.size w wr) (fun i _=>n - (intOf i).toNat)
  case atStart=>exact ⟨0,Nat.zero_le _,rfl,pairTo_0 _,cell_new0 _ _ _,HA.out⟩
  case round =>
   clear HA;obtain ⟨m,hk,rfl,hag,hbox,hb⟩:=hrel;have HB:=Lib.hid hb;have hgl:=World.block_lt_of_cell? wr _ hbox;simp only at hgl;by_cases hlt:m+1<n
   ·obtain ⟨b,off,rfl,hbB,hc⟩:=H.out.2 (by omega)
    obtain ⟨x0,x1,x2,x3⟩:=jtCells (fun i hi=>(hb.cell (by exact hbB)).trans (hc i hi)) (show m<n by omega);obtain ⟨y0,y1,y2,y3⟩:=jtCells (fun i hi=>(hb.cell (by exact hbB)).trans (hc i hi)) hlt;clear hb hc;have i1:IntKind.i64.wrap (m:Int)=(m:Int):=IntWalk.i64_in _ (by omega);have i2:(m:Int)<(n:Int):=by omega
    have i3:(m:Int)+1<(n:Int):=by omega
    have i4:(0:Int)≤(m:Int)+1:=by omega
    have i5:((m:Int)+1).toNat=m+1:=by omega
    have e1:wr.heap.size ≠ w.heap.size:=by omega
    have e2:wr.heap.size ≠ b:=by omega
    have HST:Hid (btwA zs m=btw (nth zs (m*4)) (nth zs (m*4+1)) (nth zs (m*4+2)) (nth zs (m*4+3)) (nth zs ((m+1)*4)) (nth zs ((m+1)*4+1)) (nth zs ((m+1)*4+2)) (nth zs ((m+1)*4+3))):=rfl;cases hS:stoneB (btw (nth zs (m*4)) (nth zs (m*4+1)) (nth zs (m*4+2)) (nth zs (m*4+3)) (nth zs ((m+1)*4)) (nth zs ((m+1)*4+1)) (nth zs ((m+1)*4+2)) (nth zs ((m+1)*4+3))) 4
    ·have HF:=Lib.hid (archB_f2 hlt (pairB_f1 (by rw [HST.out]; exact hS)))
     go_wp2;go_region_held3 (fun w'=>w'.cell? ⟨w.heap.size,0,none⟩=some (.slice (some ⟨b,off,none⟩) n c)∧(w'.cell? ⟨b,off+m*4,none⟩=some (.int .i64 (nth zs (m*4)))∧w'.cell? ⟨b,off+m*4+1,none⟩=some (.int .i64 (nth zs (m*4+1)))∧w'.cell? ⟨b,off+m*4+2,none⟩=some (.int .i64 (nth zs (m*4+2)))∧w'.cell? ⟨b,off+m*4+3,none⟩=some (.int .i64 (nth zs (m*4+3))))∧(w'.cell? ⟨b,off+(m+1)*4,none⟩=some (.int .i64 (nth zs ((m+1)*4)))∧w'.cell? ⟨b,off+(m+1)*4+1,none⟩=some (.int .i64 (nth zs ((m+1)*4+1)))∧w'.cell? ⟨b,off+(m+1)*4+2,none⟩=some (.int .i64 (nth zs ((m+1)*4+2)))∧w'.cell? ⟨b,off+(m+1)*4+3,none⟩=some (.int .i64 (nth zs ((m+1)*4+3))))) (first | exact ⟨hbox,⟨x0,x1,x2,x3⟩,⟨y0,y1,y2,y3⟩⟩ | (refine keepA (by assumption) (fun i => ?_) ?_ <;> first | exact cell_alloc_lt (by first | (simp; done) | (simp; omega) | omega) | exact (cell_alloc_lt (by first | (simp; done) | (simp; omega) | omega)).trans (cell_alloc_lt (by first | (simp; done) | (simp; omega) | omega)).symm | exact hcc _ _ (by first | (simp; done) | (simp; omega) | omega) | exact World.cell?_setCell_far _ _ _ _ (by first | (simp; done) | (simp; omega) | omega))) ((go_at_call 91; refine (sBetween_any _ _ _ _ _ _ _ _ _).mono ?_; rintro e w1 ⟨A1,n1,c1,rfl,_,_,hb1⟩; rw [hS]; obtain ⟨hcc,hff⟩:=bcell hb1; have k1:=hb1.size; simp at k1; have k2:w1.heap.size ≠ w.heap.size:=(by omega); have k3:w1.heap.size ≠ b:=(by omega)));all_goals
      clear hcc hff;go_wp2;refine wp_region_held_drew (S:=fun _=>True) (by kernel_rfl) trivial (fun _ => ?_);refine take_held (i:=0) (d:=28) rfl rfl ?_;try simp only [Act.put,ly3]
      refine take_held (i:=1) (d:=29) rfl rfl ?_;try simp only [Act.put,ly3]
      refine take_held (i:=2) (d:=30) rfl rfl ?_;try simp only [Act.put,ly3]
      refine skip_held (i:=3) (d:=31) rfl rfl ?_;try simp only [Act.put,ly3]
      refine skip_held (i:=4) (d:=32) rfl rfl ?_;try simp only [Act.put,ly3]
      refine skip_held (i:=5) (d:=33) rfl rfl ?_;try simp only [Act.put,ly3]
      refine skip_held (i:=6) (d:=34) rfl rfl ?_;try simp only [Act.put,ly3]
      refine skip_held (i:=7) (d:=35) rfl rfl ?_;try simp only [Act.put,ly3]
      refine skip_held (i:=8) (d:=36) rfl rfl ?_;try simp only [Act.put,ly3]
      refine skip_held (i:=9) (d:=37) rfl rfl ?_;try simp only [Act.put,ly3]
      refine skip_held (i:=10) (d:=38) rfl rfl ?_;try simp only [Act.put,ly3]
      refine skip_held (i:=11) (d:=39) rfl rfl ?_;try simp only [Act.put,ly3]
      refine skip_held (i:=12) (d:=40) rfl rfl ?_;try simp only [Act.put,ly3]
      refine skip_held (i:=13) (d:=41) rfl rfl ?_;try simp only [Act.put,ly3]
      refine skip_held (i:=14) (d:=42) rfl rfl ?_;try simp only [Act.put,ly3]
      refine skip_held (i:=15) (d:=43) rfl rfl ?_;try simp only [Act.put,ly3]
      refine skip_held (i:=16) (d:=44) rfl rfl ?_;try simp only [Act.put,ly3]
      refine skip_held (i:=17) (d:=45) rfl rfl ?_;try simp only [Act.put,ly3]
      refine skip_held (i:=18) (d:=46) rfl rfl ?_;try simp only [Act.put,ly3]
      refine take_held (i:=19) (d:=47) rfl rfl ?_;try simp only [Act.put,ly3]
      refine wpAnyH_done (by kernel_rfl) ?_ _;go_wp2;go_ret
     ·exact ⟨ret_bool HF.out.symm,((HB.out.drew.trans (hb1.mono (by simp; omega))).alloc (by omega) _).drew⟩
     ·exact ⟨ret_bool HF.out.symm,(((HB.out.drew.alloc (by simp; omega) _).trans (hb1.mono (by simp; omega))).setCell (p:=⟨wr.heap.size,0,none⟩) (by simp; omega) _).drew⟩
    ·by_cases hle:nth zs ((m+1)*4)≤nth zs (m*4)
     ·have HF:=Lib.hid (archB_f2 hlt (pairB_f2 hle))
      go_wp2;go_region_held3 (fun w'=>w'.cell? ⟨w.heap.size,0,none⟩=some (.slice (some ⟨b,off,none⟩) n c)∧(w'.cell? ⟨b,off+m*4,none⟩=some (.int .i64 (nth zs (m*4)))∧w'.cell? ⟨b,off+m*4+1,none⟩=some (.int .i64 (nth zs (m*4+1)))∧w'.cell? ⟨b,off+m*4+2,none⟩=some (.int .i64 (nth zs (m*4+2)))∧w'.cell? ⟨b,off+m*4+3,none⟩=some (.int .i64 (nth zs (m*4+3))))∧(w'.cell? ⟨b,off+(m+1)*4,none⟩=some (.int .i64 (nth zs ((m+1)*4)))∧w'.cell? ⟨b,off+(m+1)*4+1,none⟩=some (.int .i64 (nth zs ((m+1)*4+1)))∧w'.cell? ⟨b,off+(m+1)*4+2,none⟩=some (.int .i64 (nth zs ((m+1)*4+2)))∧w'.cell? ⟨b,off+(m+1)*4+3,none⟩=some (.int .i64 (nth zs ((m+1)*4+3))))) (first | exact ⟨hbox,⟨x0,x1,x2,x3⟩,⟨y0,y1,y2,y3⟩⟩ | (refine keepA (by assumption) (fun i => ?_) ?_ <;> first | exact cell_alloc_lt (by first | (simp; done) | (simp; omega) | omega) | exact (cell_alloc_lt (by first | (simp; done) | (simp; omega) | omega)).trans (cell_alloc_lt (by first | (simp; done) | (simp; omega) | omega)).symm | exact hcc _ _ (by first | (simp; done) | (simp; omega) | omega) | exact World.cell?_setCell_far _ _ _ _ (by first | (simp; done) | (simp; omega) | omega))) ((go_at_call 91; refine (sBetween_any _ _ _ _ _ _ _ _ _).mono ?_; rintro e w1 ⟨A1,n1,c1,rfl,_,_,hb1⟩; rw [hS]; obtain ⟨hcc,hff⟩:=bcell hb1; have k1:=hb1.size; simp at k1; have k2:w1.heap.size ≠ w.heap.size:=(by omega); have k3:w1.heap.size ≠ b:=(by omega)));all_goals
       rename_i hHeld
       obtain ⟨hbox2,⟨u0,_,_,_⟩,⟨v0,_,_,_⟩⟩:=hHeld;clear hcc hff;go_wp2;go_region
       go_wp2;go_ret
      ·exact ⟨ret_bool HF.out.symm,((HB.out.drew.trans (hb1.mono (by simp; omega))).alloc (by omega) _).drew⟩
      ·exact ⟨ret_bool HF.out.symm,(((HB.out.drew.alloc (by simp; omega) _).trans (hb1.mono (by simp; omega))).setCell (p:=⟨wr.heap.size,0,none⟩) (by simp; omega) _).drew⟩
     ·have HS:=Lib.hid (pairTo_step hag (pairB_t (by rw [HST.out]; exact hS) hle))
      go_wp2;go_region_held3 (fun w'=>w'.cell? ⟨w.heap.size,0,none⟩=some (.slice (some ⟨b,off,none⟩) n c)∧(w'.cell? ⟨b,off+m*4,none⟩=some (.int .i64 (nth zs (m*4)))∧w'.cell? ⟨b,off+m*4+1,none⟩=some (.int .i64 (nth zs (m*4+1)))∧w'.cell? ⟨b,off+m*4+2,none⟩=some (.int .i64 (nth zs (m*4+2)))∧w'.cell? ⟨b,off+m*4+3,none⟩=some (.int .i64 (nth zs (m*4+3))))∧(w'.cell? ⟨b,off+(m+1)*4,none⟩=some (.int .i64 (nth zs ((m+1)*4)))∧w'.cell? ⟨b,off+(m+1)*4+1,none⟩=some (.int .i64 (nth zs ((m+1)*4+1)))∧w'.cell? ⟨b,off+(m+1)*4+2,none⟩=some (.int .i64 (nth zs ((m+1)*4+2)))∧w'.cell? ⟨b,off+(m+1)*4+3,none⟩=some (.int .i64 (nth zs ((m+1)*4+3))))) (first | exact ⟨hbox,⟨x0,x1,x2,x3⟩,⟨y0,y1,y2,y3⟩⟩ | (refine keepA (by assumption) (fun i => ?_) ?_ <;> first | exact cell_alloc_lt (by first | (simp; done) | (simp; omega) | omega) | exact (cell_alloc_lt (by first | (simp; done) | (simp; omega) | omega)).trans (cell_alloc_lt (by first | (simp; done) | (simp; omega) | omega)).symm | exact hcc _ _ (by first | (simp; done) | (simp; omega) | omega) | exact World.cell?_setCell_far _ _ _ _ (by first | (simp; done) | (simp; omega) | omega))) ((go_at_call 91; refine (sBetween_any _ _ _ _ _ _ _ _ _).mono ?_; rintro e w1 ⟨A1,n1,c1,rfl,_,_,hb1⟩; rw [hS]; obtain ⟨hcc,hff⟩:=bcell hb1; have k1:=hb1.size; simp at k1; have k2:w1.heap.size ≠ w.heap.size:=(by omega); have k3:w1.heap.size ≠ b:=(by omega)));all_goals
       rename_i hHeld
       obtain ⟨hbox2,⟨u0,_,_,_⟩,⟨v0,_,_,_⟩⟩:=hHeld;have HBX:=Lib.hid hbox2;clear hcc hff;go_wp2;go_region
       clear i1 i5;go_wp2;go_roundw
      case rel=>exact ⟨m+1,by omega,by go_num,HS.out,HBX.out,((HB.out.drew.trans (hb1.mono (by simp; omega))).alloc (by omega) _).drew⟩
      case measure=>first | (simp [intOf]; done) | (simp [intOf]; omega)
      case rel=>exact ⟨m+1,by omega,by go_num,HS.out,HBX.out,(((HB.out.drew.alloc (by simp; omega) _).trans (hb1.mono (by simp; omega))).setCell (p:=⟨wr.heap.size,0,none⟩) (by simp; omega) _).drew⟩
      case measure=>first | (simp [intOf]; done) | (simp [intOf]; omega)
   ·have hag':pairTo zs (n - 1):=by rw [show n - 1=m by omega]; exact hag
    have i1:¬ (m:Int)+1<(n:Int):=by omega
    clear hb;cases hB:inB (n:Int) 3 8
    ·have HF:=Lib.hid (archB_f1 (zs:=zs) hB)
     go_wp2_with (go_at_call 52; refine (l01In_any _ _ _ _).mono ?_; rintro e w' ⟨rfl,rfl⟩);go_ret;exact ⟨ret_bool HF.out.symm,HB.out⟩
    ·have HF:=Lib.hid (archB_t hB hag')
     go_wp2_with (go_at_call 52; refine (l01In_any _ _ _ _).mono ?_; rintro e w' ⟨rfl,rfl⟩);go_ret;exact ⟨ret_bool HF.out.symm,HB.out⟩
set_option maxHeartbeats 1000000 in
theorem iArchOk_any (A:Option Addr) (n c:Nat) (zs:List Int) (w:World) (h:RecsAt w w.heap.size 4 A n zs) (hn:n≤1048576) :
  Calls Tryzx.prog 72 #[.agg #[.slice A n c]] w fun e w'=>e = .returned (.bool (archB zs n))∧Below w.heap.size w w':=by
 have HA:=Lib.hid ((Below.refl w.heap.size w).alloc (Nat.le_refl _) (.cells #[.slice A n c] 45));have H:=Lib.hid h;clear h;cases hB:inB (n:Int) 3 8
 ·have HF:=Lib.hid (archB_f1 (zs:=zs) hB)
  go_enter Tryzx.func72,Tryz.ntmps72;go_wp2_with (go_at_call 43; refine (within_any _ _ _ _).mono ?_; rintro e w' ⟨rfl,rfl⟩);go_ret;exact ⟨ret_bool HF.out.symm,HA.out⟩
 ·go_enter Tryzx.func72,Tryz.ntmps72
  go_wp2_with (go_at_call 43; refine (within_any _ _ _ _).mono ?_; rintro e w' ⟨rfl,rfl⟩);go_loopw [3] (fun i wr=>∃ k:Nat,(k≤n - 1)∧i = .int .i64 ((k+1:Nat):Int)∧pairTo zs k∧wr.cell? ⟨w.heap.size,0,none⟩=some (.slice A n c)∧Below w.heap.size w wr) (fun i _=>n - (intOf i).toNat)
  case atStart=>exact ⟨0,Nat.zero_le _,rfl,pairTo_0 _,cell_new0 _ _ _,HA.out⟩
  case round =>
   clear HA;obtain ⟨m,hk,rfl,hag,hbox,hb⟩:=hrel;have HB:=Lib.hid hb;have hgl:=World.block_lt_of_cell? wr _ hbox;simp only at hgl;by_cases hlt:m+1<n
   ·obtain ⟨b,off,rfl,hbB,hc⟩:=H.out.2 (by omega)
    obtain ⟨x0,x1,x2,x3⟩:=jtCells (fun i hi=>(hb.cell (by exact hbB)).trans (hc i hi)) (show m<n by omega);obtain ⟨y0,y1,y2,y3⟩:=jtCells (fun i hi=>(hb.cell (by exact hbB)).trans (hc i hi)) hlt;clear hb hc;have i1:IntKind.i64.wrap (m:Int)=(m:Int):=IntWalk.i64_in _ (by omega);have i2:(m:Int)<(n:Int):=by omega
    have i3:(m:Int)+1<(n:Int):=by omega
    have i4:(0:Int)≤(m:Int)+1:=by omega
    have i5:((m:Int)+1).toNat=m+1:=by omega
    have e1:wr.heap.size ≠ w.heap.size:=by omega
    have e2:wr.heap.size ≠ b:=by omega
    have HST:Hid (btwA zs m=btw (nth zs (m*4)) (nth zs (m*4+1)) (nth zs (m*4+2)) (nth zs (m*4+3)) (nth zs ((m+1)*4)) (nth zs ((m+1)*4+1)) (nth zs ((m+1)*4+2)) (nth zs ((m+1)*4+3))):=rfl;cases hS:stoneB (btw (nth zs (m*4)) (nth zs (m*4+1)) (nth zs (m*4+2)) (nth zs (m*4+3)) (nth zs ((m+1)*4)) (nth zs ((m+1)*4+1)) (nth zs ((m+1)*4+2)) (nth zs ((m+1)*4+3))) 4
    ·have HF:=Lib.hid (archB_f2 hlt (pairB_f1 (by rw [HST.out]; exact hS)))
     go_wp2;go_region_held3 (fun w'=>w'.cell? ⟨w.heap.size,0,none⟩=some (.slice (some ⟨b,off,none⟩) n c)∧(w'.cell? ⟨b,off+m*4,none⟩=some (.int .i64 (nth zs (m*4)))∧w'.cell? ⟨b,off+m*4+1,none⟩=some (.int .i64 (nth zs (m*4+1)))∧w'.cell? ⟨b,off+m*4+2,none⟩=some (.int .i64 (nth zs (m*4+2)))∧w'.cell? ⟨b,off+m*4+3,none⟩=some (.int .i64 (nth zs (m*4+3))))∧(w'.cell? ⟨b,off+(m+1)*4,none⟩=some (.int .i64 (nth zs ((m+1)*4)))∧w'.cell? ⟨b,off+(m+1)*4+1,none⟩=some (.int .i64 (nth zs ((m+1)*4+1)))∧w'.cell? ⟨b,off+(m+1)*4+2,none⟩=some (.int .i64 (nth zs ((m+1)*4+2)))∧w'.cell? ⟨b,off+(m+1)*4+3,none⟩=some (.int .i64 (nth zs ((m+1)*4+3))))) (first | exact ⟨hbox,⟨x0,x1,x2,x3⟩,⟨y0,y1,y2,y3⟩⟩ | (refine keepA (by assumption) (fun i => ?_) ?_ <;> first | exact cell_alloc_lt (by first | (simp; done) | (simp; omega) | omega) | exact (cell_alloc_lt (by first | (simp; done) | (simp; omega) | omega)).trans (cell_alloc_lt (by first | (simp; done) | (simp; omega) | omega)).symm | exact hcc _ _ (by first | (simp; done) | (simp; omega) | omega) | exact World.cell?_setCell_far _ _ _ _ (by first | (simp; done) | (simp; omega) | omega))) ((go_at_call 99; refine (iBetween_any _ _ _ _ _ _ _ _ _).mono ?_; rintro e w1 ⟨A1,n1,c1,rfl,_,_,hb1⟩; rw [hS]; obtain ⟨hcc,hff⟩:=bcell hb1; have k1:=hb1.size; simp at k1; have k2:w1.heap.size ≠ w.heap.size:=(by omega); have k3:w1.heap.size ≠ b:=(by omega)));all_goals
      clear hcc hff;go_wp2;refine wp_region_held_drew (S:=fun _=>True) (by kernel_rfl) trivial (fun _ => ?_);refine take_held (i:=0) (d:=33) rfl rfl ?_;try simp only [Act.put,ly3]
      refine take_held (i:=1) (d:=34) rfl rfl ?_;try simp only [Act.put,ly3]
      refine take_held (i:=2) (d:=35) rfl rfl ?_;try simp only [Act.put,ly3]
      refine skip_held (i:=3) (d:=36) rfl rfl ?_;try simp only [Act.put,ly3]
      refine skip_held (i:=4) (d:=37) rfl rfl ?_;try simp only [Act.put,ly3]
      refine skip_held (i:=5) (d:=38) rfl rfl ?_;try simp only [Act.put,ly3]
      refine skip_held (i:=6) (d:=39) rfl rfl ?_;try simp only [Act.put,ly3]
      refine skip_held (i:=7) (d:=40) rfl rfl ?_;try simp only [Act.put,ly3]
      refine skip_held (i:=8) (d:=41) rfl rfl ?_;try simp only [Act.put,ly3]
      refine skip_held (i:=9) (d:=42) rfl rfl ?_;try simp only [Act.put,ly3]
      refine skip_held (i:=10) (d:=43) rfl rfl ?_;try simp only [Act.put,ly3]
      refine skip_held (i:=11) (d:=44) rfl rfl ?_;try simp only [Act.put,ly3]
      refine skip_held (i:=12) (d:=45) rfl rfl ?_;try simp only [Act.put,ly3]
      refine skip_held (i:=13) (d:=46) rfl rfl ?_;try simp only [Act.put,ly3]
      refine skip_held (i:=14) (d:=47) rfl rfl ?_;try simp only [Act.put,ly3]
      refine skip_held (i:=15) (d:=48) rfl rfl ?_;try simp only [Act.put,ly3]
      refine skip_held (i:=16) (d:=49) rfl rfl ?_;try simp only [Act.put,ly3]
      refine skip_held (i:=17) (d:=50) rfl rfl ?_;try simp only [Act.put,ly3]
      refine skip_held (i:=18) (d:=51) rfl rfl ?_;try simp only [Act.put,ly3]
      refine take_held (i:=19) (d:=52) rfl rfl ?_;try simp only [Act.put,ly3]
      refine wpAnyH_done (by kernel_rfl) ?_ _;go_wp2;go_ret
     ·exact ⟨ret_bool HF.out.symm,((HB.out.drew.trans (hb1.mono (by simp; omega))).alloc (by omega) _).drew⟩
     ·exact ⟨ret_bool HF.out.symm,(((HB.out.drew.alloc (by simp; omega) _).trans (hb1.mono (by simp; omega))).setCell (p:=⟨wr.heap.size,0,none⟩) (by simp; omega) _).drew⟩
    ·by_cases hle:nth zs ((m+1)*4)≤nth zs (m*4)
     ·have HF:=Lib.hid (archB_f2 hlt (pairB_f2 hle))
      go_wp2;go_region_held3 (fun w'=>w'.cell? ⟨w.heap.size,0,none⟩=some (.slice (some ⟨b,off,none⟩) n c)∧(w'.cell? ⟨b,off+m*4,none⟩=some (.int .i64 (nth zs (m*4)))∧w'.cell? ⟨b,off+m*4+1,none⟩=some (.int .i64 (nth zs (m*4+1)))∧w'.cell? ⟨b,off+m*4+2,none⟩=some (.int .i64 (nth zs (m*4+2)))∧w'.cell? ⟨b,off+m*4+3,none⟩=some (.int .i64 (nth zs (m*4+3))))∧(w'.cell? ⟨b,off+(m+1)*4,none⟩=some (.int .i64 (nth zs ((m+1)*4)))∧w'.cell? ⟨b,off+(m+1)*4+1,none⟩=some (.int .i64 (nth zs ((m+1)*4+1)))∧w'.cell? ⟨b,off+(m+1)*4+2,none⟩=some (.int .i64 (nth zs ((m+1)*4+2)))∧w'.cell? ⟨b,off+(m+1)*4+3,none⟩=some (.int .i64 (nth zs ((m+1)*4+3))))) (first | exact ⟨hbox,⟨x0,x1,x2,x3⟩,⟨y0,y1,y2,y3⟩⟩ | (refine keepA (by assumption) (fun i => ?_) ?_ <;> first | exact cell_alloc_lt (by first | (simp; done) | (simp; omega) | omega) | exact (cell_alloc_lt (by first | (simp; done) | (simp; omega) | omega)).trans (cell_alloc_lt (by first | (simp; done) | (simp; omega) | omega)).symm | exact hcc _ _ (by first | (simp; done) | (simp; omega) | omega) | exact World.cell?_setCell_far _ _ _ _ (by first | (simp; done) | (simp; omega) | omega))) ((go_at_call 99; refine (iBetween_any _ _ _ _ _ _ _ _ _).mono ?_; rintro e w1 ⟨A1,n1,c1,rfl,_,_,hb1⟩; rw [hS]; obtain ⟨hcc,hff⟩:=bcell hb1; have k1:=hb1.size; simp at k1; have k2:w1.heap.size ≠ w.heap.size:=(by omega); have k3:w1.heap.size ≠ b:=(by omega)));all_goals
       rename_i hHeld
       obtain ⟨hbox2,⟨u0,_,_,_⟩,⟨v0,_,_,_⟩⟩:=hHeld;clear hcc hff;go_wp2;go_region
       go_wp2;go_ret
      ·exact ⟨ret_bool HF.out.symm,((HB.out.drew.trans (hb1.mono (by simp; omega))).alloc (by omega) _).drew⟩
      ·exact ⟨ret_bool HF.out.symm,(((HB.out.drew.alloc (by simp; omega) _).trans (hb1.mono (by simp; omega))).setCell (p:=⟨wr.heap.size,0,none⟩) (by simp; omega) _).drew⟩
     ·have HS:=Lib.hid (pairTo_step hag (pairB_t (by rw [HST.out]; exact hS) hle))
      go_wp2;go_region_held3 (fun w'=>w'.cell? ⟨w.heap.size,0,none⟩=some (.slice (some ⟨b,off,none⟩) n c)∧(w'.cell? ⟨b,off+m*4,none⟩=some (.int .i64 (nth zs (m*4)))∧w'.cell? ⟨b,off+m*4+1,none⟩=some (.int .i64 (nth zs (m*4+1)))∧w'.cell? ⟨b,off+m*4+2,none⟩=some (.int .i64 (nth zs (m*4+2)))∧w'.cell? ⟨b,off+m*4+3,none⟩=some (.int .i64 (nth zs (m*4+3))))∧(w'.cell? ⟨b,off+(m+1)*4,none⟩=some (.int .i64 (nth zs ((m+1)*4)))∧w'.cell? ⟨b,off+(m+1)*4+1,none⟩=some (.int .i64 (nth zs ((m+1)*4+1)))∧w'.cell? ⟨b,off+(m+1)*4+2,none⟩=some (.int .i64 (nth zs ((m+1)*4+2)))∧w'.cell? ⟨b,off+(m+1)*4+3,none⟩=some (.int .i64 (nth zs ((m+1)*4+3))))) (first | exact ⟨hbox,⟨x0,x1,x2,x3⟩,⟨y0,y1,y2,y3⟩⟩ | (refine keepA (by assumption) (fun i => ?_) ?_ <;> first | exact cell_alloc_lt (by first | (simp; done) | (simp; omega) | omega) | exact (cell_alloc_lt (by first | (simp; done) | (simp; omega) | omega)).trans (cell_alloc_lt (by first | (simp; done) | (simp; omega) | omega)).symm | exact hcc _ _ (by first | (simp; done) | (simp; omega) | omega) | exact World.cell?_setCell_far _ _ _ _ (by first | (simp; done) | (simp; omega) | omega))) ((go_at_call 99; refine (iBetween_any _ _ _ _ _ _ _ _ _).mono ?_; rintro e w1 ⟨A1,n1,c1,rfl,_,_,hb1⟩; rw [hS]; obtain ⟨hcc,hff⟩:=bcell hb1; have k1:=hb1.size; simp at k1; have k2:w1.heap.size ≠ w.heap.size:=(by omega); have k3:w1.heap.size ≠ b:=(by omega)));all_goals
       rename_i hHeld
       obtain ⟨hbox2,⟨u0,_,_,_⟩,⟨v0,_,_,_⟩⟩:=hHeld;have HBX:=Lib.hid hbox2;clear hcc hff;go_wp2;go_region
       clear i1 i5;go_wp2;go_roundw
      case rel=>exact ⟨m+1,by omega,by go_num,HS.out,HBX.out,((HB.out.drew.trans (hb1.mono (by simp; omega))).alloc (by omega) _).drew⟩
      case measure=>first | (simp [intOf]; done) | (simp [intOf]; omega)
      case rel=>exact ⟨m+1,by omega,by go_num,HS.out,HBX.out,(((HB.out.drew.alloc (by simp; omega) _).trans (hb1.mono (by simp; omega))).setCell (p:=⟨wr.heap.size,0,none⟩) (by simp; omega) _).drew⟩
      case measure=>first | (simp [intOf]; done) | (simp [intOf]; omega)
   ·have hag':pairTo zs (n - 1):=by rw [show n - 1=m by omega]; exact hag
    have i1:¬ (m:Int)+1<(n:Int):=by omega
    clear hb;have HF:=Lib.hid (archB_t hB hag');go_wp2;go_ret;exact ⟨ret_bool HF.out.symm,HB.out⟩
end X
namespace X
open Go.RowKit
def loadAt (ls:List Int) (n i:Nat):Bool:=inB (nth ls (i*3)) 0 ((n:Int) - 2) && (inB (nth ls (i*3+1)) 0 10000 && inB (nth ls (i*3+2)) (-60) 60)
def loadsB (zs:List Int) (n:Nat) (ls:List Int) (q:Nat):Bool:=archB zs n && (decide (q≤6) && allB (loadAt ls n) q)
theorem loadAt_1 {ls:List Int} {n i:Nat} (h:inB (nth ls (i*3)) 0 ((n:Int) - 2)=false):loadAt ls n i=false:=by simp [loadAt,h]
theorem loadAt_2 {ls:List Int} (n:Nat) {i:Nat} (h:inB (nth ls (i*3+1)) 0 10000=false):loadAt ls n i=false:=by simp [loadAt,h]
theorem loadAt_3 {ls:List Int} (n:Nat) {i:Nat} (h:inB (nth ls (i*3+2)) (-60) 60=false):loadAt ls n i=false:=by simp [loadAt,h]
theorem loadAt_t {ls:List Int} {n i:Nat} (h1:inB (nth ls (i*3)) 0 ((n:Int) - 2)=true) (h2:inB (nth ls (i*3+1)) 0 10000=true) (h3:inB (nth ls (i*3+2)) (-60) 60=true):loadAt ls n i=true:=by simp [loadAt,h1,h2,h3]
theorem loadsB_1 {zs:List Int} {n:Nat} (ls:List Int) (q:Nat) (h:archB zs n=false):loadsB zs n ls q=false:=by simp [loadsB,h]
theorem loadsB_2 (zs:List Int) (n:Nat) (ls:List Int) {q:Nat} (h:¬ q≤6):loadsB zs n ls q=false:=by simp [loadsB,h]
theorem loadsB_3 (zs:List Int) {n:Nat} {ls:List Int} {q k:Nat} (hk:k<q) (h:loadAt ls n k=false):loadsB zs n ls q=false:=by simp [loadsB,allB_f hk h]
theorem loadsB_t {zs:List Int} {n:Nat} {ls:List Int} {q:Nat} (h1:archB zs n=true) (h2:q≤6) (h3:allTo (loadAt ls n) q):loadsB zs n ls q=true:=by simp [loadsB,allB_t h3,h1,h2]
theorem loadsB_out {zs:List Int} {n:Nat} {ls:List Int} {q:Nat} (h:loadsB zs n ls q=true):archB zs n=true∧q≤6∧allTo (loadAt ls n) q:=by
 simp only [loadsB,Bool.and_eq_true,decide_eq_true_eq] at h;exact ⟨h.1,h.2.1,allB_out h.2.2⟩
theorem ldCells {wr:World} {b off n j:Nat} {zs:List Int} (hc:∀ i,i<n*3→wr.cell? ⟨b,off+i,none⟩=some (.int .i64 (nth zs i))) (hj:j<n) :
  wr.cell? ⟨b,off+j*3,none⟩=some (.int .i64 (nth zs (j*3)))∧wr.cell? ⟨b,off+j*3+1,none⟩=some (.int .i64 (nth zs (j*3+1)))∧wr.cell? ⟨b,off+j*3+2,none⟩=some (.int .i64 (nth zs (j*3+2))) :=
 ⟨hc _ (by omega),by have:=hc (j*3+1) (by omega); rwa [← Nat.add_assoc] at this,by have:=hc (j*3+2) (by omega); rwa [← Nat.add_assoc] at this⟩
set_option maxRecDepth 100000 in
set_option maxHeartbeats 1600000 in
theorem sLoadsOk_any (A:Option Addr) (n c:Nat) (zs:List Int) (B:Option Addr) (q d:Nat) (ls:List Int) (w:World) (h:RecsAt w w.heap.size 4 A n zs) (hn:n≤1048576) (hl:RecsAt w w.heap.size 3 B q ls) (hq:q≤1048576) :
  Calls Tryzx.prog 53 #[.agg #[.slice A n c],.slice B q d] w fun e w'=>e = .returned (.bool (loadsB zs n ls q))∧Below w.heap.size w w':=by
 have HA:=Lib.hid ((Below.refl w.heap.size w).alloc (Nat.le_refl _) (.cells #[.slice A n c] 45));have H:=Lib.hid h;have HL:=Lib.hid hl;clear h hl;go_enter Tryzx.func53,Tryz.ntmps53;go_wp2;go_loopw [5] (fun i wr=>∃ k:Nat,k≤q∧i = .int .i64 k∧allTo (loadAt ls n) k∧wr.cell? ⟨w.heap.size,0,none⟩=some (.slice A n c)∧Below w.heap.size w wr) (fun i _=>q - (intOf i).toNat)
 case atStart=>exact ⟨0,Nat.zero_le _,rfl,allTo_0 _,cell_new0 _ _ _,HA.out⟩
 case round =>
  clear HA;obtain ⟨k,hk,rfl,hag,hbox,hb⟩:=hrel;have HB:=Lib.hid hb;have hgl:=World.block_lt_of_cell? wr _ hbox;simp only at hgl;by_cases hlt:k<q
  ·obtain ⟨b,off,rfl,hbB,hc⟩:=HL.out.2 (by omega)
   obtain ⟨x0,x1,x2⟩:=ldCells (fun i hi=>(hb.cell (by exact hbB)).trans (hc i hi)) hlt;have hz:=hb.size;have HB0:=Lib.hid (fun o=>hb.alloc hz o);have HBX:=Lib.hid (fun o=>(World.cell?_alloc_lt wr o ⟨w.heap.size,0,none⟩ (by simp; omega)).trans hbox)
   clear hb hc;have T1:=Lib.hid (fun e=>loadsB_3 zs hlt (loadAt_1 (ls:=ls) (n:=n) (i:=k) e));have T2:=Lib.hid (fun e=>loadsB_3 zs hlt (loadAt_2 (ls:=ls) n (i:=k) e));have T3:=Lib.hid (fun e=>loadsB_3 zs hlt (loadAt_3 (ls:=ls) n (i:=k) e));have TS:=Lib.hid (fun e1 e2 e3=>allTo_step hag (loadAt_t (ls:=ls) (n:=n) (i:=k) e1 e2 e3));generalize nth ls (k*3)=y0 at *
   generalize nth ls (k*3+1)=y1 at *
   generalize nth ls (k*3+2)=y2 at *
   clear hag;cases h1:inB y0 0 ((n:Int) - 2)
   ·have HF:=Lib.hid (T1.out h1)
    go_wp2_with (go_at_call 52; refine (l01In_any _ _ _ _).mono ?_; rw [h1]; rintro e w' ⟨rfl,rfl⟩);go_ret;exact ⟨ret_bool HF.out.symm,HB0.out _⟩
   ·cases h2:inB y1 0 10000
    ·have HF:=Lib.hid (T2.out h2)
     go_wp2_with (go_at_call 52; refine (l01In_any _ _ _ _).mono ?_; (first | rw [h1] | rw [h2]); rintro e w' ⟨rfl,rfl⟩);go_ret;exact ⟨ret_bool HF.out.symm,HB0.out _⟩
    ·cases h3:inB y2 (-60) 60
     ·have HF:=Lib.hid (T3.out h3)
      go_wp2_with (go_at_call 52; refine (l01In_any _ _ _ _).mono ?_; (first | rw [h1] | rw [h2] | rw [h3]); rintro e w' ⟨rfl,rfl⟩);go_ret;exact ⟨ret_bool HF.out.symm,HB0.out _⟩
     ·have HS:=Lib.hid (TS.out h1 h2 h3)
      go_wp2_with (go_at_call 52; refine (l01In_any _ _ _ _).mono ?_; (first | rw [h1] | rw [h2] | rw [h3]); rintro e w' ⟨rfl,rfl⟩);go_roundw
      case rel=>exact ⟨k+1,by omega,by go_num,HS.out,HBX.out _,HB0.out _⟩
      case measure=>first | (simp [intOf]; done) | (simp [intOf]; omega)
  ·obtain rfl:k=q:=by omega
   have HAG:=Lib.hid hag;have h1:=(H.out.below hb).mono hb.size;clear hb hag;cases hA:archB zs n
   ·have HF:=Lib.hid (loadsB_1 ls k hA)
    go_wp2_with fail
    refine (sArchOk_any _ _ _ zs _ h1 hn).mono ?_;rw [hA];rintro e w1 ⟨rfl,hb1⟩;have HB1:=Lib.hid (HB.out.trans (hb1.mono HB.out.size));go_wp2;go_ret;exact ⟨ret_bool HF.out.symm,HB1.out⟩
   ·by_cases hq6:k≤6
    ·have HF:=Lib.hid (loadsB_t hA hq6 HAG.out)
     have ht:decide ((k:Int)≤6)=true:=by simp; omega
     go_wp2_with fail
     refine (sArchOk_any _ _ _ zs _ h1 hn).mono ?_;rw [hA];rintro e w1 ⟨rfl,hb1⟩;have HB1:=Lib.hid (HB.out.trans (hb1.mono HB.out.size));go_wp2;go_ret;exact ⟨ret_bool HF.out.symm,HB1.out⟩
    ·have HF:=Lib.hid (loadsB_2 zs n ls hq6)
     have ht:decide ((k:Int)≤6)=false:=by simp; omega
     go_wp2_with fail
     refine (sArchOk_any _ _ _ zs _ h1 hn).mono ?_;rw [hA];rintro e w1 ⟨rfl,hb1⟩;have HB1:=Lib.hid (HB.out.trans (hb1.mono HB.out.size));go_wp2;go_ret;exact ⟨ret_bool HF.out.symm,HB1.out⟩
set_option maxRecDepth 100000 in
set_option maxHeartbeats 1600000 in
theorem iLoadsOk_any (A:Option Addr) (n c:Nat) (zs:List Int) (B:Option Addr) (q d:Nat) (ls:List Int) (w:World) (h:RecsAt w w.heap.size 4 A n zs) (hn:n≤1048576) (hl:RecsAt w w.heap.size 3 B q ls) (hq:q≤1048576) :
  Calls Tryzx.prog 45 #[.agg #[.slice A n c],.slice B q d] w fun e w'=>e = .returned (.bool (loadsB zs n ls q))∧Below w.heap.size w w':=by
 have HA:=Lib.hid ((Below.refl w.heap.size w).alloc (Nat.le_refl _) (.cells #[.slice A n c] 45));have h1:RecsAt (w.alloc (.cells #[.slice A n c] 45)) (w.alloc (.cells #[.slice A n c] 45)).heap.size 4 A n zs:=(h.alloc (Nat.le_refl _) _).mono (by simp);have HL:=Lib.hid hl;clear h hl;cases hA:archB zs n
 ·have HF:=Lib.hid (loadsB_1 ls q hA)
  go_enter Tryzx.func45,Tryz.ntmps45;go_wp2_with fail
  refine (iArchOk_any _ _ _ zs _ h1 hn).mono ?_;rw [hA];rintro e w1 ⟨rfl,hb1⟩;have HB1:=Lib.hid (HA.out.trans (hb1.mono (by simp)));go_wp2;go_ret;exact ⟨ret_bool HF.out.symm,HB1.out⟩
 by_cases hq6:q≤6
 ·have ht:¬ (6:Int)<(q:Int):=by omega
  have HT:=Lib.hid (fun h3=>loadsB_t (ls:=ls) hA hq6 h3);go_enter Tryzx.func45,Tryz.ntmps45;go_wp2_with fail
  refine (iArchOk_any _ _ _ zs _ h1 hn).mono ?_;rw [hA];rintro e w1 ⟨rfl,hb1⟩;have HB1:=Lib.hid (HA.out.trans (hb1.mono (by simp)));have hbox1:=(hb1.cell (p:=⟨w.heap.size,0,none⟩) (by simp)).trans (cell_new0 _ _ _);clear hb1;go_wp2;go_loopw [17] (fun i wr=>∃ k:Nat,k≤q∧i = .int .i64 k∧allTo (loadAt ls n) k∧wr.cell? ⟨w.heap.size,0,none⟩=some (.slice A n c)∧Below w.heap.size w wr) (fun i _=>q - (intOf i).toNat)
  case atStart=>exact ⟨0,Nat.zero_le _,rfl,allTo_0 _,hbox1,HB1.out⟩
  case round =>
   clear HA HB1 hbox1;obtain ⟨k,hk,rfl,hag,hbox,hb⟩:=hrel;have HB:=Lib.hid hb;have hgl:=World.block_lt_of_cell? wr _ hbox;simp only at hgl;by_cases hlt:k<q
   ·obtain ⟨b,off,rfl,hbB,hc⟩:=HL.out.2 (by omega)
    obtain ⟨x0,x1,x2⟩:=ldCells (fun i hi=>(hb.cell (by exact hbB)).trans (hc i hi)) hlt;have hz:=hb.size;have HB0:=Lib.hid (fun o=>hb.alloc hz o);have HBX:=Lib.hid (fun o=>(World.cell?_alloc_lt wr o ⟨w.heap.size,0,none⟩ (by simp; omega)).trans hbox)
    clear hb hc;have T1:=Lib.hid (fun e=>loadsB_3 zs hlt (loadAt_1 (ls:=ls) (n:=n) (i:=k) e));have T2:=Lib.hid (fun e=>loadsB_3 zs hlt (loadAt_2 (ls:=ls) n (i:=k) e));have T3:=Lib.hid (fun e=>loadsB_3 zs hlt (loadAt_3 (ls:=ls) n (i:=k) e));have TS:=Lib.hid (fun e1 e2 e3=>allTo_step hag (loadAt_t (ls:=ls) (n:=n) (i:=k) e1 e2 e3));generalize nth ls (k*3)=y0 at *
    generalize nth ls (k*3+1)=y1 at *
    generalize nth ls (k*3+2)=y2 at *
    clear hag;cases g1:inB y0 0 ((n:Int) - 2)
    ·have HF:=Lib.hid (T1.out g1)
     go_wp2_with (go_at_call 43; refine (within_any _ _ _ _).mono ?_; rw [g1]; rintro e w' ⟨rfl,rfl⟩);go_ret;exact ⟨ret_bool HF.out.symm,HB0.out _⟩
    ·cases g2:inB y1 0 10000
     ·have HF:=Lib.hid (T2.out g2)
      go_wp2_with (go_at_call 43; refine (within_any _ _ _ _).mono ?_; (first | rw [g1] | rw [g2]); rintro e w' ⟨rfl,rfl⟩);go_ret;exact ⟨ret_bool HF.out.symm,HB0.out _⟩
     ·cases g3:inB y2 (-60) 60
      ·have HF:=Lib.hid (T3.out g3)
       go_wp2_with (first | (go_at_call 43; refine (within_any _ _ _ _).mono ?_; (first | rw [g1] | rw [g2]); rintro e w' ⟨rfl,rfl⟩) | (go_at_call 73; refine (isPlace_any _ _).mono ?_; rw [g3]; rintro e w' ⟨rfl,rfl⟩));go_ret;exact ⟨ret_bool HF.out.symm,HB0.out _⟩
      ·have HS:=Lib.hid (TS.out g1 g2 g3)
       go_wp2_with (first | (go_at_call 43; refine (within_any _ _ _ _).mono ?_; (first | rw [g1] | rw [g2]); rintro e w' ⟨rfl,rfl⟩) | (go_at_call 73; refine (isPlace_any _ _).mono ?_; rw [g3]; rintro e w' ⟨rfl,rfl⟩));go_roundw
       case rel=>exact ⟨k+1,by omega,by go_num,HS.out,HBX.out _,HB0.out _⟩
       case measure=>first | (simp [intOf]; done) | (simp [intOf]; omega)
   ·obtain rfl:k=q:=by omega
    have HF:=Lib.hid (HT.out hag);clear hb hag;go_wp2;go_ret;exact ⟨ret_bool HF.out.symm,HB.out⟩
 ·have HF:=Lib.hid (loadsB_2 zs n ls hq6)
  have ht:(6:Int)<(q:Int):=by omega
  go_enter Tryzx.func45,Tryz.ntmps45;go_wp2_with fail
  refine (iArchOk_any _ _ _ zs _ h1 hn).mono ?_;rw [hA];rintro e w1 ⟨rfl,hb1⟩;have HB1:=Lib.hid (HA.out.trans (hb1.mono (by simp)));go_wp2;go_ret;exact ⟨ret_bool HF.out.symm,HB1.out⟩
end X
namespace X
open Go.RowKit
def swt (zs:List Int) (k:Nat):Int:=weightI (btwA zs k) 4
def smt (zs:List Int) (k:Nat):Int:=overI facX (btwA zs k) 4
theorem swt_bd (zs:List Int) (k:Nat) : -129600≤swt zs k∧swt zs k≤129600:=weightI_bd _ _
theorem smt_bd (zs:List Int) (k:Nat) : -5184000≤smt zs k∧smt zs k≤5184000:=overI_bd facX_ok _ _
def ldW (ls:List Int) (k:Nat):Nat→Int
 | 0=>0
 | i+1=>ldW ls k i+if nth ls (i*3)=(k:Int) then nth ls (i*3+1) else 0
def ldM (ls:List Int) (k:Nat):Nat→Int
 | 0=>0
 | i+1=>ldM ls k i+if nth ls (i*3)=(k:Int) then nth ls (i*3+1)*nth ls (i*3+2) else 0
theorem ldW_t {ls:List Int} {k i:Nat} (h:nth ls (i*3)=(k:Int)):ldW ls k (i+1)=ldW ls k i+nth ls (i*3+1):=by simp [ldW,h]
theorem ldW_f {ls:List Int} {k i:Nat} (h:¬ nth ls (i*3)=(k:Int)):ldW ls k (i+1)=ldW ls k i:=by simp [ldW,h]
theorem ldM_t {ls:List Int} {k i:Nat} (h:nth ls (i*3)=(k:Int)):ldM ls k (i+1)=ldM ls k i+nth ls (i*3+1)*nth ls (i*3+2):=by simp [ldM,h]
theorem ldM_f {ls:List Int} {k i:Nat} (h:¬ nth ls (i*3)=(k:Int)):ldM ls k (i+1)=ldM ls k i:=by simp [ldM,h]
theorem loadAt_out {ls:List Int} {n i:Nat} (h:loadAt ls n i=true):(0≤nth ls (i*3)∧nth ls (i*3)≤(n:Int) - 2)∧(0≤nth ls (i*3+1)∧nth ls (i*3+1)≤10000)∧(-60≤nth ls (i*3+2)∧nth ls (i*3+2)≤60):=by
 simp only [loadAt,Bool.and_eq_true,inB_iff] at h;exact ⟨h.1,h.2.1,h.2.2⟩
theorem wx_bd {a b:Int} (ha:0≤a∧a≤10000) (hb : -60≤b∧b≤60) : -600000≤a*b∧a*b≤600000:=by
 have:=mul_bd (a:=a) (b:=b) (m:=10000) (n:=60) (by omega) hb;omega
theorem ldW_bd {ls:List Int} {n q:Nat} (h:allTo (loadAt ls n) q) (k:Nat):∀ i:Nat,i≤q→0≤ldW ls k i∧ldW ls k i≤10000*(i:Int)
 | 0,_=>by simp [ldW]
 | i+1,hi=>by
  have ih:=ldW_bd h k i (by omega);have:=loadAt_out (h i (by omega));simp only [ldW];split <;> omega
theorem ldM_bd {ls:List Int} {n q:Nat} (h:allTo (loadAt ls n) q) (k:Nat):∀ i:Nat,i≤q → -(600000*(i:Int))≤ldM ls k i∧ldM ls k i≤600000*(i:Int)
 | 0,_=>by simp [ldM]
 | i+1,hi=>by
  have ih:=ldM_bd h k i (by omega);have h1:=loadAt_out (h i (by omega));have:=wx_bd h1.2.1 h1.2.2;simp only [ldM];split <;> omega
def kwTo (zs ls:List Int) (k i:Nat):Int:=swt zs k+ldW ls k i
def kmTo (zs ls:List Int) (k i:Nat):Int:=smt zs k+ldM ls k i
theorem kwTo_0 (zs ls:List Int) (k:Nat):kwTo zs ls k 0=swt zs k:=by simp [kwTo,ldW]
theorem kmTo_0 (zs ls:List Int) (k:Nat):kmTo zs ls k 0=smt zs k:=by simp [kmTo,ldM]
theorem kwTo_t (zs:List Int) {ls:List Int} {k i:Nat} (h:nth ls (i*3)=(k:Int)):kwTo zs ls k (i+1)=kwTo zs ls k i+nth ls (i*3+1):=by simp only [kwTo,ldW_t h]; omega
theorem kwTo_f (zs:List Int) {ls:List Int} {k i:Nat} (h:¬ nth ls (i*3)=(k:Int)):kwTo zs ls k (i+1)=kwTo zs ls k i:=by simp only [kwTo,ldW_f h]
theorem kmTo_t (zs:List Int) {ls:List Int} {k i:Nat} (h:nth ls (i*3)=(k:Int)):kmTo zs ls k (i+1)=kmTo zs ls k i+nth ls (i*3+1)*nth ls (i*3+2):=by simp only [kmTo,ldM_t h]; omega
theorem kmTo_f (zs:List Int) {ls:List Int} {k i:Nat} (h:¬ nth ls (i*3)=(k:Int)):kmTo zs ls k (i+1)=kmTo zs ls k i:=by simp only [kmTo,ldM_f h]
theorem kwTo_bd {ls:List Int} {n q:Nat} (zs:List Int) (h:allTo (loadAt ls n) q) (hq:q≤6) (k:Nat) {i:Nat} (hi:i≤q) : -200000≤kwTo zs ls k i∧kwTo zs ls k i≤200000:=by
 have h1:=swt_bd zs k;have h2:=ldW_bd h k i hi;unfold kwTo;omega
theorem kmTo_bd {ls:List Int} {n q:Nat} (zs:List Int) (h:allTo (loadAt ls n) q) (hq:q≤6) (k:Nat) {i:Nat} (hi:i≤q) : -9000000≤kmTo zs ls k i∧kmTo zs ls k i≤9000000:=by
 have h1:=smt_bd zs k;have h2:=ldM_bd h k i hi;unfold kmTo;omega
def leftW (zs ls:List Int) (q:Nat):Nat→Int
 | 0=>0
 | k+1=>leftW zs ls q k+kwTo zs ls k q
def leftM (zs ls:List Int) (q:Nat):Nat→Int
 | 0=>0
 | k+1=>leftM zs ls q k+kmTo zs ls k q
theorem leftW_bd {ls:List Int} {n q:Nat} (zs:List Int) (h:allTo (loadAt ls n) q) (hq:q≤6):∀ k:Nat,-(200000*(k:Int))≤leftW zs ls q k∧leftW zs ls q k≤200000*(k:Int)
 | 0=>by simp [leftW]
 | k+1=>by
  have ih:=leftW_bd zs h hq k;have:=kwTo_bd zs h hq k (Nat.le_refl q);simp only [leftW];omega
theorem leftM_bd {ls:List Int} {n q:Nat} (zs:List Int) (h:allTo (loadAt ls n) q) (hq:q≤6):∀ k:Nat,-(9000000*(k:Int))≤leftM zs ls q k∧leftM zs ls q k≤9000000*(k:Int)
 | 0=>by simp [leftM]
 | k+1=>by
  have ih:=leftM_bd zs h hq k;have:=kmTo_bd zs h hq k (Nat.le_refl q);simp only [leftM];omega
def wmL (zs ls:List Int) (i:Nat):Nat→List Int
 | 0 => []
 | k+1=>wmL zs ls i k ++ [kwTo zs ls k i,kmTo zs ls k i]
theorem wmL_len (zs ls:List Int) (i:Nat):∀ k,(wmL zs ls i k).length=k*2
 | 0=>rfl
 | k+1=>by simp [wmL,wmL_len zs ls i k]; omega
theorem wmL_nth (zs ls:List Int) (i:Nat):∀ {m k:Nat},k<m→nth (wmL zs ls i m) (k*2)=kwTo zs ls k i∧nth (wmL zs ls i m) (k*2+1)=kmTo zs ls k i
 | 0,k,h=>absurd h (by omega)
 | m+1,k,h=>by
  have hl:=wmL_len zs ls i m;by_cases e:k=m
  ·subst e
   simp only [wmL];exact ⟨by simp [nth,List.getD,hl],by simp [nth,List.getD,← hl]⟩
  ·have ih:=wmL_nth zs ls i (m:=m) (k:=k) (by omega)
   simp only [wmL];refine ⟨?_,?_⟩
   ·rw [← ih.1]; simp only [nth,List.getD]; rw [List.getElem?_append_left (by omega)]
   ·rw [← ih.2]; simp only [nth,List.getD]; rw [List.getElem?_append_left (by omega)]
end X
namespace X
open Go.RowKit
def sumW (xs:List Int):Nat→Int
 | 0=>0
 | k+1=>sumW xs k+nth xs (k*2)
def sumM (xs:List Int):Nat→Int
 | 0=>0
 | k+1=>sumM xs k+nth xs (k*2+1)
def rowJ (zs:List Int) (W M:Nat→Int) (k:Nat):List Int :=
 [nth zs (k*4+1),-nth zs (k*4),1,M k - nth zs (k*4)*W k,-nth zs (k*4+3),nth zs (k*4+2),-1,nth zs (k*4+2)*W k - M k]
def rowTo (zs:List Int) (W M:Nat→Int):Nat→List Int
 | 0 => []
 | k+1=>rowTo zs W M k ++ rowJ zs W M k
def rowsL (zs:List Int) (W M:Nat→Int) (n:Nat):List Int:=rowTo zs W M n ++ [-1,0,0,0]
section
variable {zs : List Int} {W M W' M' : Nat → Int}
theorem rowTo_len (zs:List Int) (W M:Nat→Int):∀ k,(rowTo zs W M k).length=k*8
 | 0=>rfl
 | k+1=>by simp [rowTo,rowTo_len zs W M k,rowJ]; omega
theorem rowTo_congr:∀ {n:Nat},(∀ k,k<n→W k=W' k∧M k=M' k)→rowTo zs W M n=rowTo zs W' M' n
 | 0,_=>rfl
 | n+1,h=>by
  simp only [rowTo];rw [rowTo_congr (fun k hk=>h k (by omega))];simp only [rowJ,(h n (by omega)).1,(h n (by omega)).2]
theorem rowsL_congr {n:Nat} (h:∀ k,k<n→W k=W' k∧M k=M' k):rowsL zs W M n=rowsL zs W' M' n:=by
 unfold rowsL;rw [rowTo_congr h]
end
theorem nthA_l {xs ys:List Int} {i:Nat} (h:i<xs.length):nth (xs ++ ys) i=nth xs i:=by simp only [nth,List.getD]; rw [List.getElem?_append_left h]
theorem nthA_r {xs ys:List Int} {i:Nat} (j:Nat) (h:i=xs.length+j):nth (xs ++ ys) i=nth ys j:=by
 subst h;simp only [nth,List.getD];rw [List.getElem?_append_right (by omega),Nat.add_sub_cancel_left]
theorem rowTo_nth (zs:List Int) (W M:Nat→Int):∀ {m k j:Nat},k<m→j<8→nth (rowTo zs W M m) (k*8+j)=nth (rowJ zs W M k) j
 | 0,k,j,h,_=>absurd h (by omega)
 | m+1,k,j,h,hj=>by
  have hl:=rowTo_len zs W M m;simp only [rowTo];by_cases e:k=m
  ·subst e
   exact nthA_r j (by omega)
  ·rw [nthA_l (by omega)]
   exact rowTo_nth zs W M (by omega) hj
def rowB (a b c d:Int):Bool:=inB a (-100) 100 && (inB b (-100) 100 && (inB c (-1) 1 && inB d (-1000000000) 1000000000))
theorem rowB_1 {a:Int} (b c d:Int) (h:inB a (-100) 100=false):rowB a b c d=false:=by simp [rowB,h]
theorem rowB_2 (a:Int) {b:Int} (c d:Int) (h:inB b (-100) 100=false):rowB a b c d=false:=by simp [rowB,h]
theorem rowB_3 (a b:Int) {c:Int} (d:Int) (h:inB c (-1) 1=false):rowB a b c d=false:=by simp [rowB,h]
theorem rowB_t {a b c:Int} (d:Int) (h1:inB a (-100) 100=true) (h2:inB b (-100) 100=true) (h3:inB c (-1) 1=true):rowB a b c d=inB d (-1000000000) 1000000000:=by simp [rowB,h1,h2,h3]
theorem rowB_iff {a b c d:Int}:rowB a b c d=true ↔ (-100≤a∧a≤100)∧(-100≤b∧b≤100)∧(-1≤c∧c≤1)∧(-1000000000≤d∧d≤1000000000):=by simp [rowB,inB_iff]
def rowAt (rs:List Int) (i:Nat):Bool:=rowB (nth rs (i*4)) (nth rs (i*4+1)) (nth rs (i*4+2)) (nth rs (i*4+3))
def WMok (W M:Nat→Int) (n:Nat):Prop:=∀ k,k<n→(-2000000≤W k∧W k≤2000000)∧(-80000000≤M k∧M k≤80000000)
theorem archB_ptsR {zs:List Int} {n:Nat} (h:archB zs n=true):∀ m,m<n→ptB (nth zs (m*4)) (nth zs (m*4+1))=true∧ptB (nth zs (m*4+2)) (nth zs (m*4+3))=true:=by
 obtain ⟨hn,hp⟩:=archB_out h;intro m hm;by_cases e:m+1<n
 ·have h1:=hp m (by omega)
  simp only [pairB,Bool.and_eq_true] at h1;have h2:=(stoneB_out h1.1).2.1;exact ⟨h2 0 (by omega),h2 3 (by omega)⟩
 ·obtain ⟨k,rfl⟩:∃ k,m=k+1:=⟨m - 1,by omega⟩
  have h1:=hp k (by omega);simp only [pairB,Bool.and_eq_true] at h1;have h2:=(stoneB_out h1.1).2.1;exact ⟨h2 1 (by omega),h2 2 (by omega)⟩
structure JBd (ix iy ox oy w m:Int):Prop where
 pi:(-60≤ix∧ix≤60)∧(-60≤iy∧iy≤60)
 po:(-60≤ox∧ox≤60)∧(-60≤oy∧oy≤60)
 hw : -2000000≤w∧w≤2000000
 hm : -80000000≤m∧m≤80000000
 iw : -120000000≤ix*w∧ix*w≤120000000
 ow : -120000000≤ox*w∧ox*w≤120000000
theorem jBd_of {zs:List Int} {W M:Nat→Int} {n k:Nat} (hA:archB zs n=true) (h:WMok W M n) (hk:k<n):JBd (nth zs (k*4)) (nth zs (k*4+1)) (nth zs (k*4+2)) (nth zs (k*4+3)) (W k) (M k):=by
 have hp:=archB_ptsR hA k hk;rw [ptB_iff,ptB_iff] at hp;have hw:=h k hk;have e1:=mul_bd (a:=nth zs (k*4)) (b:=W k) (m:=60) (n:=2000000) (by omega) hw.1;have e2:=mul_bd (a:=nth zs (k*4+2)) (b:=W k) (m:=60) (n:=2000000) (by omega) hw.1;exact ⟨hp.1,hp.2,hw.1,hw.2,by omega,by omega⟩
theorem rowsL_ok {zs:List Int} {W M:Nat→Int} {n:Nat} (hA:archB zs n=true) (h:WMok W M n):∀ i,i<n*2+1→rowAt (rowsL zs W M n) i=true:=by
 intro i hi;have hl:=rowTo_len zs W M n;by_cases e:i=n*2
 ·subst e
  unfold rowAt rowsL;rw [nthA_r 0 (by omega),nthA_r 1 (by omega),nthA_r 2 (by omega),nthA_r 3 (by omega)];decide
 ·have hk:i / 2<n:=by omega
  obtain ⟨hpi,hpo,hw,hm,hiw,how⟩:=jBd_of hA h hk;unfold rowAt rowsL;rw [nthA_l (by omega),nthA_l (by omega),nthA_l (by omega),nthA_l (by omega)];rcases Nat.mod_two_eq_zero_or_one i with e2 | e2
  ·rw [show i*4=i / 2*8+0 by omega,show i / 2*8+0+1=i / 2*8+1 by omega,show i / 2*8+0+2=i / 2*8+2 by omega,show i / 2*8+0+3=i / 2*8+3 by omega]
   rw [rowTo_nth _ _ _ hk (by omega),rowTo_nth _ _ _ hk (by omega),rowTo_nth _ _ _ hk (by omega),rowTo_nth _ _ _ hk (by omega),rowB_iff];simp only [rowJ,nth,List.getD_cons_zero,List.getD_cons_succ] at *
   omega
  ·rw [show i*4=i / 2*8+4 by omega,show i / 2*8+4+1=i / 2*8+5 by omega,show i / 2*8+4+2=i / 2*8+6 by omega,show i / 2*8+4+3=i / 2*8+7 by omega]
   rw [rowTo_nth _ _ _ hk (by omega),rowTo_nth _ _ _ hk (by omega),rowTo_nth _ _ _ hk (by omega),rowTo_nth _ _ _ hk (by omega),rowB_iff];simp only [rowJ,nth,List.getD_cons_zero,List.getD_cons_succ] at *
   omega
end X
end Go.Proofs.YtjcgklifabcfkaaGreat
