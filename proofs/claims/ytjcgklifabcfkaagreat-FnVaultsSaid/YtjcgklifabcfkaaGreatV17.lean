/-
  Texts that the law stands on, part 17.
-/
import Derived.Test.YtjcgklifabcfkaaGreatV16
set_option maxRecDepth 100000
set_option linter.unusedVariables false
set_option linter.unusedSimpArgs false
set_option maxHeartbeats 12800000
section
namespace Go.Proofs.YtjcgklifabcfkaaGreat
open Go.RowKit
theorem q_ {p:Prop} (h:p):RowKit.Hid p:=Lib.hid h
theorem iW {n:Int} (h:-9223372036854775808<=n/\n<=9223372036854775807):IntKind.i64.wrap n=n:=IntWalk.i64_in n h
theorem bnw (w o):Below w.heap.size w (w.alloc o):=(Below.refl _ _).alloc (Nat.le_refl _) _
section
variable {P : Program} {ops : Array Oper} {Q : Exit -> Act -> World -> Prop} {md : Region.Mode} {S : World -> Prop}
theorem tk (i d:Nat) {oi:Oper} {v:Value} {fuel:Nat} {listed:Array Bool} {a:Act} {w:World} (hi:ops[i]?=some oi) (hd:oi.dst=some d)
  (h:wpAnyH P md ops Q S fuel (listed.setIfInBounds i true) (a.put (some d) v) w)
  (hs:Region.noSelect ops=true:=by kernel_rfl) (hf:Region.free md ops listed i=true:=by kernel_rfl) (hr:(Region.ready md ops listed).contains i=true:=by kernel_rfl) (hQ:∀ c a w,Q (.panic c) (a.put (some d) v) w->Q (.panic c) a w:=by exact fun _ _ _ h=>h)
  (hw:Region.wanted oi (yielded ops a.tmps)=true:=by kernel_rfl) (hy:∀ w,S w->(execOp a.eval oi).run P w = .ok (.value v) w:=by intro w hSw; (try dsimp only at hSw); go_simp; try rfl) (hS:S w:=by assumption):wpAnyH P md ops Q S (fuel+1) listed a w :=
 take_heldS hi hd h hs hf hr hQ hw hy hS
theorem rd1 (i:Nat) {o:Oper} {fuel:Nat} {listed:Array Bool} {a:Act} {w:World} (ho:ops[i]?=some o)
  (h:∀ K':Act->World->Prop,Shut (∀ a w,S w->(S w->wpAnyH P md ops Q S fuel (listed.setIfInBounds i true) a w)->K' a w)->if Region.wanted o (yielded ops a.tmps)=true then Oper.wp P o a w K' Q else K' (a.put o.dst undef) w)
  (hr:Region.ready md ops listed=[i]:=by kernel_rfl):wpAnyH P md ops Q S (fuel+1) listed a w:=wpAnyH_ready hr (by simp) (AllReadyH.cons ho h AllReadyH.nil)
theorem rd2 (i j:Nat) {o o2:Oper} {fuel:Nat} {listed:Array Bool} {a:Act} {w:World} (ho:ops[i]?=some o) (ho2:ops[j]?=some o2)
  (h:∀ K':Act->World->Prop,Shut (∀ a w,S w->(S w->wpAnyH P md ops Q S fuel (listed.setIfInBounds i true) a w)->K' a w)->if Region.wanted o (yielded ops a.tmps)=true then Oper.wp P o a w K' Q else K' (a.put o.dst undef) w)
  (h2:∀ K':Act->World->Prop,Shut (∀ a w,S w->(S w->wpAnyH P md ops Q S fuel (listed.setIfInBounds j true) a w)->K' a w)->if Region.wanted o2 (yielded ops a.tmps)=true then Oper.wp P o2 a w K' Q else K' (a.put o2.dst undef) w)
  (hr:Region.ready md ops listed=[i,j]:=by kernel_rfl):wpAnyH P md ops Q S (fuel+1) listed a w:=wpAnyH_ready hr (by simp) (AllReadyH.cons ho h (AllReadyH.cons ho2 h2 AllReadyH.nil))
end
end Go.Proofs.YtjcgklifabcfkaaGreat
end
namespace Go.Proofs.YtjcgklifabcfkaaGreat
namespace X
open Go.RowKit
def btwA (zs:List Int) (k:Nat):List Int:=btw (nth zs (k*4)) (nth zs (k*4+1)) (nth zs (k*4+2)) (nth zs (k*4+3)) (nth zs ((k+1)*4)) (nth zs ((k+1)*4+1)) (nth zs ((k+1)*4+2)) (nth zs ((k+1)*4+3))
def pairB (zs:List Int) (k:Nat):Bool:=stoneB (btwA zs k) 4 && decide (nth zs (k*4)<nth zs ((k+1)*4))
theorem pairB_f1 {zs:List Int} {k:Nat} (h:stoneB (btwA zs k) 4=false):pairB zs k=false:=by simp [pairB,h]
theorem pairB_f2 {zs:List Int} {k:Nat} (h:nth zs ((k+1)*4)<=nth zs (k*4)):pairB zs k=false:=by
 have:decide (nth zs (k*4)<nth zs ((k+1)*4))=false:=decide_eq_false (by omega);simp [pairB,this]
theorem pairB_t {zs:List Int} {k:Nat} (h:stoneB (btwA zs k) 4=true) (h2:¬ nth zs ((k+1)*4)<=nth zs (k*4)):pairB zs k=true:=by
 have:decide (nth zs (k*4)<nth zs ((k+1)*4))=true:=decide_eq_true (by omega);simp [pairB,this,h]
def pairTo (zs:List Int) (k:Nat):Prop:=∀ i,i<k->pairB zs i=true
theorem pairTo_0 (zs:List Int):pairTo zs 0:=fun i hi=>absurd hi (by omega)
theorem pairTo_step {zs:List Int} {k:Nat} (h:pairTo zs k) (e:pairB zs k=true):pairTo zs (k+1):=by
 intro i hi;by_cases hik:i=k
 ·subst hik; exact e
 ·exact h i (by omega)
def archB (zs:List Int) (n:Nat):Bool:=inB (n:Int) 3 8 && (List.range (n - 1)).all (pairB zs)
theorem archB_f1 {zs:List Int} {n:Nat} (h:inB (n:Int) 3 8=false):archB zs n=false:=by simp [archB,h]
theorem archB_f2 {zs:List Int} {n k:Nat} (hk:k+1<n) (h:pairB zs k=false):archB zs n=false:=by
 have:(List.range (n - 1)).all (pairB zs)=false:=by
  rw [List.all_eq_false];exact ⟨k,by simp; omega,by simp [h]⟩
 simp [archB,this]
theorem archB_t {zs:List Int} {n:Nat} (h1:inB (n:Int) 3 8=true) (h2:pairTo zs (n - 1)):archB zs n=true:=by
 have:(List.range (n - 1)).all (pairB zs)=true:=by
  rw [List.all_eq_true];exact fun i hi=>h2 i (by simpa using hi)
 simp [archB,this,h1]
theorem archB_out {zs:List Int} {n:Nat} (h:archB zs n=true):(3<=n/\n<=8)/\pairTo zs (n - 1):=by
 simp only [archB,Bool.and_eq_true,inB_iff,List.all_eq_true] at h;exact ⟨by omega,fun i hi=>h.2 i (by simpa using hi)⟩
theorem jtCells {wr:World} {b off n j:Nat} {zs:List Int} (hc:∀ i,i<n*4->wr.cell? ⟨b,off+i,none⟩=some (.int .i64 (nth zs i))) (hj:j<n) :
  wr.cell? ⟨b,off+j*4,none⟩=some (.int .i64 (nth zs (j*4)))/\wr.cell? ⟨b,off+j*4+1,none⟩=some (.int .i64 (nth zs (j*4+1)))/\wr.cell? ⟨b,off+j*4+2,none⟩=some (.int .i64 (nth zs (j*4+2)))/\wr.cell? ⟨b,off+j*4+3,none⟩=some (.int .i64 (nth zs (j*4+3))) :=
 ⟨hc (j*4) (by omega),by have:=hc (j*4+1) (by omega); rwa [<- Nat.add_assoc] at this,by have:=hc (j*4+2) (by omega); rwa [<- Nat.add_assoc] at this,by have:=hc (j*4+3) (by omega); rwa [<- Nat.add_assoc] at this⟩
theorem keepA {w w1 w2:World} {b off n c m:Nat} {zs:List Int} (h:w1.cell? ⟨w.heap.size,0,none⟩=some (.slice (some ⟨b,off,none⟩) n c)/\(w1.cell? ⟨b,off+m*4,none⟩=some (.int .i64 (nth zs (m*4)))/\w1.cell? ⟨b,off+m*4+1,none⟩=some (.int .i64 (nth zs (m*4+1)))/\w1.cell? ⟨b,off+m*4+2,none⟩=some (.int .i64 (nth zs (m*4+2)))/\w1.cell? ⟨b,off+m*4+3,none⟩=some (.int .i64 (nth zs (m*4+3))))/\(w1.cell? ⟨b,off+(m+1)*4,none⟩=some (.int .i64 (nth zs ((m+1)*4)))/\w1.cell? ⟨b,off+(m+1)*4+1,none⟩=some (.int .i64 (nth zs ((m+1)*4+1)))/\w1.cell? ⟨b,off+(m+1)*4+2,none⟩=some (.int .i64 (nth zs ((m+1)*4+2)))/\w1.cell? ⟨b,off+(m+1)*4+3,none⟩=some (.int .i64 (nth zs ((m+1)*4+3))))) (e:∀ i,w2.cell? ⟨b,i,none⟩=w1.cell? ⟨b,i,none⟩) (e0:w2.cell? ⟨w.heap.size,0,none⟩=w1.cell? ⟨w.heap.size,0,none⟩) :
  w2.cell? ⟨w.heap.size,0,none⟩=some (.slice (some ⟨b,off,none⟩) n c)/\(w2.cell? ⟨b,off+m*4,none⟩=some (.int .i64 (nth zs (m*4)))/\w2.cell? ⟨b,off+m*4+1,none⟩=some (.int .i64 (nth zs (m*4+1)))/\w2.cell? ⟨b,off+m*4+2,none⟩=some (.int .i64 (nth zs (m*4+2)))/\w2.cell? ⟨b,off+m*4+3,none⟩=some (.int .i64 (nth zs (m*4+3))))/\(w2.cell? ⟨b,off+(m+1)*4,none⟩=some (.int .i64 (nth zs ((m+1)*4)))/\w2.cell? ⟨b,off+(m+1)*4+1,none⟩=some (.int .i64 (nth zs ((m+1)*4+1)))/\w2.cell? ⟨b,off+(m+1)*4+2,none⟩=some (.int .i64 (nth zs ((m+1)*4+2)))/\w2.cell? ⟨b,off+(m+1)*4+3,none⟩=some (.int .i64 (nth zs ((m+1)*4+3)))):=by
 simp only [e,e0];exact h
theorem sArchOk_any (A:Option Addr) (n c:Nat) (zs:List Int) (w:World) (h:RecsAt w w.heap.size 4 A n zs) (hn:n<=1048576) :
  Calls Tryzx.prog 79 #[.agg #[.slice A n c]] w fun e w'=>e = .returned (.bool (archB zs n))/\Below w.heap.size w w':=by
 have HA:=q_ ((Below.refl w.heap.size w).alloc (Nat.le_refl _) (.cells #[.slice A n c] 45));have H:=q_ h;clear h
 ·go_enter Tryzx.func79,Tryz.ntmps79
  go_wp2;go_loopw [3] (fun i wr=>∃ k:Nat,(k<=n - 1)/\i = .int .i64 ((k+1:Nat):Int)/\pairTo zs k/\wr.cell? ⟨w.heap.size,0,none⟩=some (.slice A n c)/\Below w.heap.size w wr) (fun i _=>n - (intOf i).toNat)
  case atStart=>exact ⟨0,Nat.zero_le _,rfl,pairTo_0 _,cell_new0 _ _ _,HA.out⟩
  case round =>
   clear HA;obtain ⟨m,hk,rfl,hag,hbox,hb⟩:=hrel;have HB:=q_ hb;have hgl:=World.block_lt_of_cell? wr _ hbox;simp only at hgl;by_cases hlt:m+1<n
   ·obtain ⟨b,off,rfl,hbB,hc⟩:=H.out.2 (by omega)
    obtain ⟨x0,x1,x2,x3⟩:=jtCells (fun i hi=>(hb.cell (by exact hbB)).trans (hc i hi)) (show m<n by omega);obtain ⟨y0,y1,y2,y3⟩:=jtCells (fun i hi=>(hb.cell (by exact hbB)).trans (hc i hi)) hlt;clear hb hc;have i1:IntKind.i64.wrap (m:Int)=(m:Int):=iW (by omega);have i2:(m:Int)<(n:Int):=by omega
    have i3:(m:Int)+1<(n:Int):=by omega
    have i4:(0:Int)<=(m:Int)+1:=by omega
    have i5:((m:Int)+1).toNat=m+1:=by omega
    have e1:wr.heap.size ≠ w.heap.size:=by omega
    have e2:wr.heap.size ≠ b:=by omega
    have HST:Hid (btwA zs m=btw (nth zs (m*4)) (nth zs (m*4+1)) (nth zs (m*4+2)) (nth zs (m*4+3)) (nth zs ((m+1)*4)) (nth zs ((m+1)*4+1)) (nth zs ((m+1)*4+2)) (nth zs ((m+1)*4+3))):=rfl;cases hS:stoneB (btw (nth zs (m*4)) (nth zs (m*4+1)) (nth zs (m*4+2)) (nth zs (m*4+3)) (nth zs ((m+1)*4)) (nth zs ((m+1)*4+1)) (nth zs ((m+1)*4+2)) (nth zs ((m+1)*4+3))) 4
    ·have HF:=q_ (archB_f2 hlt (pairB_f1 (by rw [HST.out]; exact hS)))
     go_wp2;go_region_held3 (fun w'=>w'.cell? ⟨w.heap.size,0,none⟩=some (.slice (some ⟨b,off,none⟩) n c)/\(w'.cell? ⟨b,off+m*4,none⟩=some (.int .i64 (nth zs (m*4)))/\w'.cell? ⟨b,off+m*4+1,none⟩=some (.int .i64 (nth zs (m*4+1)))/\w'.cell? ⟨b,off+m*4+2,none⟩=some (.int .i64 (nth zs (m*4+2)))/\w'.cell? ⟨b,off+m*4+3,none⟩=some (.int .i64 (nth zs (m*4+3))))/\(w'.cell? ⟨b,off+(m+1)*4,none⟩=some (.int .i64 (nth zs ((m+1)*4)))/\w'.cell? ⟨b,off+(m+1)*4+1,none⟩=some (.int .i64 (nth zs ((m+1)*4+1)))/\w'.cell? ⟨b,off+(m+1)*4+2,none⟩=some (.int .i64 (nth zs ((m+1)*4+2)))/\w'.cell? ⟨b,off+(m+1)*4+3,none⟩=some (.int .i64 (nth zs ((m+1)*4+3))))) (first | exact ⟨hbox,⟨x0,x1,x2,x3⟩,⟨y0,y1,y2,y3⟩⟩ | (refine keepA (by assumption) (fun i => ?_) ?_ <;> first | exact cell_alloc_lt (by first | (simp; done) | (simp; omega) | omega) | exact (cell_alloc_lt (by first | (simp; done) | (simp; omega) | omega)).trans (cell_alloc_lt (by first | (simp; done) | (simp; omega) | omega)).symm | exact hcc _ _ (by first | (simp; done) | (simp; omega) | omega) | exact World.cell?_setCell_far _ _ _ _ (by first | (simp; done) | (simp; omega) | omega))) ((go_at_call 91; refine (sBetween_any _ _ _ _ _ _ _ _ _).mono ?_; rintro e w1 ⟨A1,n1,c1,rfl,_,_,hb1⟩; rw [hS]; obtain ⟨hcc,hff⟩:=bcell hb1; have k1:=hb1.size; simp at k1; have k2:w1.heap.size ≠ w.heap.size:=(by omega); have k3:w1.heap.size ≠ b:=(by omega)));all_goals
      clear hcc hff;go_wp2;refine wp_region_held_drew (S:=fun _=>True) (by kernel_rfl) trivial (fun _ => ?_);refine take_held (i:=0) (d:=28) rfl rfl ?_;try simp only [Act.put,ly3]
      refine take_held (i:=1) (d:=29) rfl rfl ?_;try simp only [Act.put,ly3]
      refine take_held (i:=2) (d:=30) rfl rfl ?_;try simp only [Act.put,ly3]
      refine skip_held (i:=3) (d:=31) rfl rfl ?_;try simp only [Act.put,ly3]
      refine skip_held (i:=4) (d:=32) rfl rfl ?_;try simp only [Act.put,ly3]
      refine skip_held (i:=5) (d:=33) rfl rfl ?_;try simp only [Act.put,ly3]
      refine skip_held (i:=6) (d:=34) rfl rfl ?_;try simp only [Act.put,ly3]
      refine skip_held (i:=7) (d:=35) rfl rfl ?_;try simp only [Act.put,ly3]
      refine skip_held (i:=8) (d:=36) rfl rfl ?_;try simp only [Act.put,ly3]
      refine skip_held (i:=9) (d:=37) rfl rfl ?_;try simp only [Act.put,ly3]
      refine skip_held (i:=10) (d:=38) rfl rfl ?_;try simp only [Act.put,ly3]
      refine skip_held (i:=11) (d:=39) rfl rfl ?_;try simp only [Act.put,ly3]
      refine skip_held (i:=12) (d:=40) rfl rfl ?_;try simp only [Act.put,ly3]
      refine skip_held (i:=13) (d:=41) rfl rfl ?_;try simp only [Act.put,ly3]
      refine skip_held (i:=14) (d:=42) rfl rfl ?_;try simp only [Act.put,ly3]
      refine skip_held (i:=15) (d:=43) rfl rfl ?_;try simp only [Act.put,ly3]
      refine skip_held (i:=16) (d:=44) rfl rfl ?_;try simp only [Act.put,ly3]
      refine skip_held (i:=17) (d:=45) rfl rfl ?_;try simp only [Act.put,ly3]
      refine skip_held (i:=18) (d:=46) rfl rfl ?_;try simp only [Act.put,ly3]
      refine take_held (i:=19) (d:=47) rfl rfl ?_;try simp only [Act.put,ly3]
      refine wpAnyH_done (by kernel_rfl) ?_ _;go_wp2;go_ret
     ·exact ⟨ret_bool HF.out.symm,((HB.out.drew.trans (hb1.mono (by simp; omega))).alloc (by omega) _).drew⟩
     ·exact ⟨ret_bool HF.out.symm,(((HB.out.drew.alloc (by simp; omega) _).trans (hb1.mono (by simp; omega))).setCell (p:=⟨wr.heap.size,0,none⟩) (by simp; omega) _).drew⟩
    ·by_cases hle:nth zs ((m+1)*4)<=nth zs (m*4)
     ·have HF:=q_ (archB_f2 hlt (pairB_f2 hle))
      go_wp2;go_region_held3 (fun w'=>w'.cell? ⟨w.heap.size,0,none⟩=some (.slice (some ⟨b,off,none⟩) n c)/\(w'.cell? ⟨b,off+m*4,none⟩=some (.int .i64 (nth zs (m*4)))/\w'.cell? ⟨b,off+m*4+1,none⟩=some (.int .i64 (nth zs (m*4+1)))/\w'.cell? ⟨b,off+m*4+2,none⟩=some (.int .i64 (nth zs (m*4+2)))/\w'.cell? ⟨b,off+m*4+3,none⟩=some (.int .i64 (nth zs (m*4+3))))/\(w'.cell? ⟨b,off+(m+1)*4,none⟩=some (.int .i64 (nth zs ((m+1)*4)))/\w'.cell? ⟨b,off+(m+1)*4+1,none⟩=some (.int .i64 (nth zs ((m+1)*4+1)))/\w'.cell? ⟨b,off+(m+1)*4+2,none⟩=some (.int .i64 (nth zs ((m+1)*4+2)))/\w'.cell? ⟨b,off+(m+1)*4+3,none⟩=some (.int .i64 (nth zs ((m+1)*4+3))))) (first | exact ⟨hbox,⟨x0,x1,x2,x3⟩,⟨y0,y1,y2,y3⟩⟩ | (refine keepA (by assumption) (fun i => ?_) ?_ <;> first | exact cell_alloc_lt (by first | (simp; done) | (simp; omega) | omega) | exact (cell_alloc_lt (by first | (simp; done) | (simp; omega) | omega)).trans (cell_alloc_lt (by first | (simp; done) | (simp; omega) | omega)).symm | exact hcc _ _ (by first | (simp; done) | (simp; omega) | omega) | exact World.cell?_setCell_far _ _ _ _ (by first | (simp; done) | (simp; omega) | omega))) ((go_at_call 91; refine (sBetween_any _ _ _ _ _ _ _ _ _).mono ?_; rintro e w1 ⟨A1,n1,c1,rfl,_,_,hb1⟩; rw [hS]; obtain ⟨hcc,hff⟩:=bcell hb1; have k1:=hb1.size; simp at k1; have k2:w1.heap.size ≠ w.heap.size:=(by omega); have k3:w1.heap.size ≠ b:=(by omega)));all_goals
       rename_i hHeld
       obtain ⟨hbox2,⟨u0,_,_,_⟩,⟨v0,_,_,_⟩⟩:=hHeld;clear hcc hff;go_wp2;go_region
       go_wp2;go_ret
      ·exact ⟨ret_bool HF.out.symm,((HB.out.drew.trans (hb1.mono (by simp; omega))).alloc (by omega) _).drew⟩
      ·exact ⟨ret_bool HF.out.symm,(((HB.out.drew.alloc (by simp; omega) _).trans (hb1.mono (by simp; omega))).setCell (p:=⟨wr.heap.size,0,none⟩) (by simp; omega) _).drew⟩
     ·have HS:=q_ (pairTo_step hag (pairB_t (by rw [HST.out]; exact hS) hle))
      go_wp2;go_region_held3 (fun w'=>w'.cell? ⟨w.heap.size,0,none⟩=some (.slice (some ⟨b,off,none⟩) n c)/\(w'.cell? ⟨b,off+m*4,none⟩=some (.int .i64 (nth zs (m*4)))/\w'.cell? ⟨b,off+m*4+1,none⟩=some (.int .i64 (nth zs (m*4+1)))/\w'.cell? ⟨b,off+m*4+2,none⟩=some (.int .i64 (nth zs (m*4+2)))/\w'.cell? ⟨b,off+m*4+3,none⟩=some (.int .i64 (nth zs (m*4+3))))/\(w'.cell? ⟨b,off+(m+1)*4,none⟩=some (.int .i64 (nth zs ((m+1)*4)))/\w'.cell? ⟨b,off+(m+1)*4+1,none⟩=some (.int .i64 (nth zs ((m+1)*4+1)))/\w'.cell? ⟨b,off+(m+1)*4+2,none⟩=some (.int .i64 (nth zs ((m+1)*4+2)))/\w'.cell? ⟨b,off+(m+1)*4+3,none⟩=some (.int .i64 (nth zs ((m+1)*4+3))))) (first | exact ⟨hbox,⟨x0,x1,x2,x3⟩,⟨y0,y1,y2,y3⟩⟩ | (refine keepA (by assumption) (fun i => ?_) ?_ <;> first | exact cell_alloc_lt (by first | (simp; done) | (simp; omega) | omega) | exact (cell_alloc_lt (by first | (simp; done) | (simp; omega) | omega)).trans (cell_alloc_lt (by first | (simp; done) | (simp; omega) | omega)).symm | exact hcc _ _ (by first | (simp; done) | (simp; omega) | omega) | exact World.cell?_setCell_far _ _ _ _ (by first | (simp; done) | (simp; omega) | omega))) ((go_at_call 91; refine (sBetween_any _ _ _ _ _ _ _ _ _).mono ?_; rintro e w1 ⟨A1,n1,c1,rfl,_,_,hb1⟩; rw [hS]; obtain ⟨hcc,hff⟩:=bcell hb1; have k1:=hb1.size; simp at k1; have k2:w1.heap.size ≠ w.heap.size:=(by omega); have k3:w1.heap.size ≠ b:=(by omega)));all_goals
       rename_i hHeld
       obtain ⟨hbox2,⟨u0,_,_,_⟩,⟨v0,_,_,_⟩⟩:=hHeld;have HBX:=q_ hbox2;clear hcc hff;go_wp2;go_region
       clear i1 i5;go_wp2;go_roundw
      case rel=>exact ⟨m+1,by omega,by go_num,HS.out,HBX.out,((HB.out.drew.trans (hb1.mono (by simp; omega))).alloc (by omega) _).drew⟩
      case measure=>first | (simp [intOf]; done) | (simp [intOf]; omega)
      case rel=>exact ⟨m+1,by omega,by go_num,HS.out,HBX.out,(((HB.out.drew.alloc (by simp; omega) _).trans (hb1.mono (by simp; omega))).setCell (p:=⟨wr.heap.size,0,none⟩) (by simp; omega) _).drew⟩
      case measure=>first | (simp [intOf]; done) | (simp [intOf]; omega)
   ·have hag':pairTo zs (n - 1):=by rw [show n - 1=m by omega]; exact hag
    have i1:¬ (m:Int)+1<(n:Int):=by omega
    clear hb;cases hB:inB (n:Int) 3 8
    ·have HF:=q_ (archB_f1 (zs:=zs) hB)
     go_wp2_with (go_at_call 52; refine (l01In_any _ _ _ _).mono ?_; rintro e w' ⟨rfl,rfl⟩);go_ret;exact ⟨ret_bool HF.out.symm,HB.out⟩
    ·have HF:=q_ (archB_t hB hag')
     go_wp2_with (go_at_call 52; refine (l01In_any _ _ _ _).mono ?_; rintro e w' ⟨rfl,rfl⟩);go_ret;exact ⟨ret_bool HF.out.symm,HB.out⟩
theorem iArchOk_any (A:Option Addr) (n c:Nat) (zs:List Int) (w:World) (h:RecsAt w w.heap.size 4 A n zs) (hn:n<=1048576) :
  Calls Tryzx.prog 72 #[.agg #[.slice A n c]] w fun e w'=>e = .returned (.bool (archB zs n))/\Below w.heap.size w w':=by
 have HA:=q_ ((Below.refl w.heap.size w).alloc (Nat.le_refl _) (.cells #[.slice A n c] 45));have H:=q_ h;clear h;cases hB:inB (n:Int) 3 8
 ·have HF:=q_ (archB_f1 (zs:=zs) hB)
  go_enter Tryzx.func72,Tryz.ntmps72;go_wp2_with (go_at_call 43; refine (within_any _ _ _ _).mono ?_; rintro e w' ⟨rfl,rfl⟩);go_ret;exact ⟨ret_bool HF.out.symm,HA.out⟩
 ·go_enter Tryzx.func72,Tryz.ntmps72
  go_wp2_with (go_at_call 43; refine (within_any _ _ _ _).mono ?_; rintro e w' ⟨rfl,rfl⟩);go_loopw [3] (fun i wr=>∃ k:Nat,(k<=n - 1)/\i = .int .i64 ((k+1:Nat):Int)/\pairTo zs k/\wr.cell? ⟨w.heap.size,0,none⟩=some (.slice A n c)/\Below w.heap.size w wr) (fun i _=>n - (intOf i).toNat)
  case atStart=>exact ⟨0,Nat.zero_le _,rfl,pairTo_0 _,cell_new0 _ _ _,HA.out⟩
  case round =>
   clear HA;obtain ⟨m,hk,rfl,hag,hbox,hb⟩:=hrel;have HB:=q_ hb;have hgl:=World.block_lt_of_cell? wr _ hbox;simp only at hgl;by_cases hlt:m+1<n
   ·obtain ⟨b,off,rfl,hbB,hc⟩:=H.out.2 (by omega)
    obtain ⟨x0,x1,x2,x3⟩:=jtCells (fun i hi=>(hb.cell (by exact hbB)).trans (hc i hi)) (show m<n by omega);obtain ⟨y0,y1,y2,y3⟩:=jtCells (fun i hi=>(hb.cell (by exact hbB)).trans (hc i hi)) hlt;clear hb hc;have i1:IntKind.i64.wrap (m:Int)=(m:Int):=iW (by omega);have i2:(m:Int)<(n:Int):=by omega
    have i3:(m:Int)+1<(n:Int):=by omega
    have i4:(0:Int)<=(m:Int)+1:=by omega
    have i5:((m:Int)+1).toNat=m+1:=by omega
    have e1:wr.heap.size ≠ w.heap.size:=by omega
    have e2:wr.heap.size ≠ b:=by omega
    have HST:Hid (btwA zs m=btw (nth zs (m*4)) (nth zs (m*4+1)) (nth zs (m*4+2)) (nth zs (m*4+3)) (nth zs ((m+1)*4)) (nth zs ((m+1)*4+1)) (nth zs ((m+1)*4+2)) (nth zs ((m+1)*4+3))):=rfl;cases hS:stoneB (btw (nth zs (m*4)) (nth zs (m*4+1)) (nth zs (m*4+2)) (nth zs (m*4+3)) (nth zs ((m+1)*4)) (nth zs ((m+1)*4+1)) (nth zs ((m+1)*4+2)) (nth zs ((m+1)*4+3))) 4
    ·have HF:=q_ (archB_f2 hlt (pairB_f1 (by rw [HST.out]; exact hS)))
     go_wp2;go_region_held3 (fun w'=>w'.cell? ⟨w.heap.size,0,none⟩=some (.slice (some ⟨b,off,none⟩) n c)/\(w'.cell? ⟨b,off+m*4,none⟩=some (.int .i64 (nth zs (m*4)))/\w'.cell? ⟨b,off+m*4+1,none⟩=some (.int .i64 (nth zs (m*4+1)))/\w'.cell? ⟨b,off+m*4+2,none⟩=some (.int .i64 (nth zs (m*4+2)))/\w'.cell? ⟨b,off+m*4+3,none⟩=some (.int .i64 (nth zs (m*4+3))))/\(w'.cell? ⟨b,off+(m+1)*4,none⟩=some (.int .i64 (nth zs ((m+1)*4)))/\w'.cell? ⟨b,off+(m+1)*4+1,none⟩=some (.int .i64 (nth zs ((m+1)*4+1)))/\w'.cell? ⟨b,off+(m+1)*4+2,none⟩=some (.int .i64 (nth zs ((m+1)*4+2)))/\w'.cell? ⟨b,off+(m+1)*4+3,none⟩=some (.int .i64 (nth zs ((m+1)*4+3))))) (first | exact ⟨hbox,⟨x0,x1,x2,x3⟩,⟨y0,y1,y2,y3⟩⟩ | (refine keepA (by assumption) (fun i => ?_) ?_ <;> first | exact cell_alloc_lt (by first | (simp; done) | (simp; omega) | omega) | exact (cell_alloc_lt (by first | (simp; done) | (simp; omega) | omega)).trans (cell_alloc_lt (by first | (simp; done) | (simp; omega) | omega)).symm | exact hcc _ _ (by first | (simp; done) | (simp; omega) | omega) | exact World.cell?_setCell_far _ _ _ _ (by first | (simp; done) | (simp; omega) | omega))) ((go_at_call 99; refine (iBetween_any _ _ _ _ _ _ _ _ _).mono ?_; rintro e w1 ⟨A1,n1,c1,rfl,_,_,hb1⟩; rw [hS]; obtain ⟨hcc,hff⟩:=bcell hb1; have k1:=hb1.size; simp at k1; have k2:w1.heap.size ≠ w.heap.size:=(by omega); have k3:w1.heap.size ≠ b:=(by omega)));all_goals
      clear hcc hff;go_wp2;refine wp_region_held_drew (S:=fun _=>True) (by kernel_rfl) trivial (fun _ => ?_);refine take_held (i:=0) (d:=33) rfl rfl ?_;try simp only [Act.put,ly3]
      refine take_held (i:=1) (d:=34) rfl rfl ?_;try simp only [Act.put,ly3]
      refine take_held (i:=2) (d:=35) rfl rfl ?_;try simp only [Act.put,ly3]
      refine skip_held (i:=3) (d:=36) rfl rfl ?_;try simp only [Act.put,ly3]
      refine skip_held (i:=4) (d:=37) rfl rfl ?_;try simp only [Act.put,ly3]
      refine skip_held (i:=5) (d:=38) rfl rfl ?_;try simp only [Act.put,ly3]
      refine skip_held (i:=6) (d:=39) rfl rfl ?_;try simp only [Act.put,ly3]
      refine skip_held (i:=7) (d:=40) rfl rfl ?_;try simp only [Act.put,ly3]
      refine skip_held (i:=8) (d:=41) rfl rfl ?_;try simp only [Act.put,ly3]
      refine skip_held (i:=9) (d:=42) rfl rfl ?_;try simp only [Act.put,ly3]
      refine skip_held (i:=10) (d:=43) rfl rfl ?_;try simp only [Act.put,ly3]
      refine skip_held (i:=11) (d:=44) rfl rfl ?_;try simp only [Act.put,ly3]
      refine skip_held (i:=12) (d:=45) rfl rfl ?_;try simp only [Act.put,ly3]
      refine skip_held (i:=13) (d:=46) rfl rfl ?_;try simp only [Act.put,ly3]
      refine skip_held (i:=14) (d:=47) rfl rfl ?_;try simp only [Act.put,ly3]
      refine skip_held (i:=15) (d:=48) rfl rfl ?_;try simp only [Act.put,ly3]
      refine skip_held (i:=16) (d:=49) rfl rfl ?_;try simp only [Act.put,ly3]
      refine skip_held (i:=17) (d:=50) rfl rfl ?_;try simp only [Act.put,ly3]
      refine skip_held (i:=18) (d:=51) rfl rfl ?_;try simp only [Act.put,ly3]
      refine take_held (i:=19) (d:=52) rfl rfl ?_;try simp only [Act.put,ly3]
      refine wpAnyH_done (by kernel_rfl) ?_ _;go_wp2;go_ret
     ·exact ⟨ret_bool HF.out.symm,((HB.out.drew.trans (hb1.mono (by simp; omega))).alloc (by omega) _).drew⟩
     ·exact ⟨ret_bool HF.out.symm,(((HB.out.drew.alloc (by simp; omega) _).trans (hb1.mono (by simp; omega))).setCell (p:=⟨wr.heap.size,0,none⟩) (by simp; omega) _).drew⟩
    ·by_cases hle:nth zs ((m+1)*4)<=nth zs (m*4)
     ·have HF:=q_ (archB_f2 hlt (pairB_f2 hle))
      go_wp2;go_region_held3 (fun w'=>w'.cell? ⟨w.heap.size,0,none⟩=some (.slice (some ⟨b,off,none⟩) n c)/\(w'.cell? ⟨b,off+m*4,none⟩=some (.int .i64 (nth zs (m*4)))/\w'.cell? ⟨b,off+m*4+1,none⟩=some (.int .i64 (nth zs (m*4+1)))/\w'.cell? ⟨b,off+m*4+2,none⟩=some (.int .i64 (nth zs (m*4+2)))/\w'.cell? ⟨b,off+m*4+3,none⟩=some (.int .i64 (nth zs (m*4+3))))/\(w'.cell? ⟨b,off+(m+1)*4,none⟩=some (.int .i64 (nth zs ((m+1)*4)))/\w'.cell? ⟨b,off+(m+1)*4+1,none⟩=some (.int .i64 (nth zs ((m+1)*4+1)))/\w'.cell? ⟨b,off+(m+1)*4+2,none⟩=some (.int .i64 (nth zs ((m+1)*4+2)))/\w'.cell? ⟨b,off+(m+1)*4+3,none⟩=some (.int .i64 (nth zs ((m+1)*4+3))))) (first | exact ⟨hbox,⟨x0,x1,x2,x3⟩,⟨y0,y1,y2,y3⟩⟩ | (refine keepA (by assumption) (fun i => ?_) ?_ <;> first | exact cell_alloc_lt (by first | (simp; done) | (simp; omega) | omega) | exact (cell_alloc_lt (by first | (simp; done) | (simp; omega) | omega)).trans (cell_alloc_lt (by first | (simp; done) | (simp; omega) | omega)).symm | exact hcc _ _ (by first | (simp; done) | (simp; omega) | omega) | exact World.cell?_setCell_far _ _ _ _ (by first | (simp; done) | (simp; omega) | omega))) ((go_at_call 99; refine (iBetween_any _ _ _ _ _ _ _ _ _).mono ?_; rintro e w1 ⟨A1,n1,c1,rfl,_,_,hb1⟩; rw [hS]; obtain ⟨hcc,hff⟩:=bcell hb1; have k1:=hb1.size; simp at k1; have k2:w1.heap.size ≠ w.heap.size:=(by omega); have k3:w1.heap.size ≠ b:=(by omega)));all_goals
       rename_i hHeld
       obtain ⟨hbox2,⟨u0,_,_,_⟩,⟨v0,_,_,_⟩⟩:=hHeld;clear hcc hff;go_wp2;go_region
       go_wp2;go_ret
      ·exact ⟨ret_bool HF.out.symm,((HB.out.drew.trans (hb1.mono (by simp; omega))).alloc (by omega) _).drew⟩
      ·exact ⟨ret_bool HF.out.symm,(((HB.out.drew.alloc (by simp; omega) _).trans (hb1.mono (by simp; omega))).setCell (p:=⟨wr.heap.size,0,none⟩) (by simp; omega) _).drew⟩
     ·have HS:=q_ (pairTo_step hag (pairB_t (by rw [HST.out]; exact hS) hle))
      go_wp2;go_region_held3 (fun w'=>w'.cell? ⟨w.heap.size,0,none⟩=some (.slice (some ⟨b,off,none⟩) n c)/\(w'.cell? ⟨b,off+m*4,none⟩=some (.int .i64 (nth zs (m*4)))/\w'.cell? ⟨b,off+m*4+1,none⟩=some (.int .i64 (nth zs (m*4+1)))/\w'.cell? ⟨b,off+m*4+2,none⟩=some (.int .i64 (nth zs (m*4+2)))/\w'.cell? ⟨b,off+m*4+3,none⟩=some (.int .i64 (nth zs (m*4+3))))/\(w'.cell? ⟨b,off+(m+1)*4,none⟩=some (.int .i64 (nth zs ((m+1)*4)))/\w'.cell? ⟨b,off+(m+1)*4+1,none⟩=some (.int .i64 (nth zs ((m+1)*4+1)))/\w'.cell? ⟨b,off+(m+1)*4+2,none⟩=some (.int .i64 (nth zs ((m+1)*4+2)))/\w'.cell? ⟨b,off+(m+1)*4+3,none⟩=some (.int .i64 (nth zs ((m+1)*4+3))))) (first | exact ⟨hbox,⟨x0,x1,x2,x3⟩,⟨y0,y1,y2,y3⟩⟩ | (refine keepA (by assumption) (fun i => ?_) ?_ <;> first | exact cell_alloc_lt (by first | (simp; done) | (simp; omega) | omega) | exact (cell_alloc_lt (by first | (simp; done) | (simp; omega) | omega)).trans (cell_alloc_lt (by first | (simp; done) | (simp; omega) | omega)).symm | exact hcc _ _ (by first | (simp; done) | (simp; omega) | omega) | exact World.cell?_setCell_far _ _ _ _ (by first | (simp; done) | (simp; omega) | omega))) ((go_at_call 99; refine (iBetween_any _ _ _ _ _ _ _ _ _).mono ?_; rintro e w1 ⟨A1,n1,c1,rfl,_,_,hb1⟩; rw [hS]; obtain ⟨hcc,hff⟩:=bcell hb1; have k1:=hb1.size; simp at k1; have k2:w1.heap.size ≠ w.heap.size:=(by omega); have k3:w1.heap.size ≠ b:=(by omega)));all_goals
       rename_i hHeld
       obtain ⟨hbox2,⟨u0,_,_,_⟩,⟨v0,_,_,_⟩⟩:=hHeld;have HBX:=q_ hbox2;clear hcc hff;go_wp2;go_region
       clear i1 i5;go_wp2;go_roundw
      case rel=>exact ⟨m+1,by omega,by go_num,HS.out,HBX.out,((HB.out.drew.trans (hb1.mono (by simp; omega))).alloc (by omega) _).drew⟩
      case measure=>first | (simp [intOf]; done) | (simp [intOf]; omega)
      case rel=>exact ⟨m+1,by omega,by go_num,HS.out,HBX.out,(((HB.out.drew.alloc (by simp; omega) _).trans (hb1.mono (by simp; omega))).setCell (p:=⟨wr.heap.size,0,none⟩) (by simp; omega) _).drew⟩
      case measure=>first | (simp [intOf]; done) | (simp [intOf]; omega)
   ·have hag':pairTo zs (n - 1):=by rw [show n - 1=m by omega]; exact hag
    have i1:¬ (m:Int)+1<(n:Int):=by omega
    clear hb;have HF:=q_ (archB_t hB hag');go_wp2;go_ret;exact ⟨ret_bool HF.out.symm,HB.out⟩
end X
namespace X
open Go.RowKit
def loadAt (ls:List Int) (n i:Nat):Bool:=inB (nth ls (i*3)) 0 ((n:Int) - 2) && (inB (nth ls (i*3+1)) 0 10000 && inB (nth ls (i*3+2)) (-60) 60)
def loadsB (zs:List Int) (n:Nat) (ls:List Int) (q:Nat):Bool:=archB zs n && (decide (q<=6) && allB (loadAt ls n) q)
theorem loadAt_1 {ls:List Int} {n i:Nat} (h:inB (nth ls (i*3)) 0 ((n:Int) - 2)=false):loadAt ls n i=false:=by simp [loadAt,h]
theorem loadAt_2 {ls:List Int} (n:Nat) {i:Nat} (h:inB (nth ls (i*3+1)) 0 10000=false):loadAt ls n i=false:=by simp [loadAt,h]
theorem loadAt_3 {ls:List Int} (n:Nat) {i:Nat} (h:inB (nth ls (i*3+2)) (-60) 60=false):loadAt ls n i=false:=by simp [loadAt,h]
theorem loadAt_t {ls:List Int} {n i:Nat} (h1:inB (nth ls (i*3)) 0 ((n:Int) - 2)=true) (h2:inB (nth ls (i*3+1)) 0 10000=true) (h3:inB (nth ls (i*3+2)) (-60) 60=true):loadAt ls n i=true:=by simp [loadAt,h1,h2,h3]
theorem loadsB_1 {zs:List Int} {n:Nat} (ls:List Int) (q:Nat) (h:archB zs n=false):loadsB zs n ls q=false:=by simp [loadsB,h]
theorem loadsB_2 (zs:List Int) (n:Nat) (ls:List Int) {q:Nat} (h:¬ q<=6):loadsB zs n ls q=false:=by simp [loadsB,h]
theorem loadsB_3 (zs:List Int) {n:Nat} {ls:List Int} {q k:Nat} (hk:k<q) (h:loadAt ls n k=false):loadsB zs n ls q=false:=by simp [loadsB,allB_f hk h]
theorem loadsB_t {zs:List Int} {n:Nat} {ls:List Int} {q:Nat} (h1:archB zs n=true) (h2:q<=6) (h3:allTo (loadAt ls n) q):loadsB zs n ls q=true:=by simp [loadsB,allB_t h3,h1,h2]
theorem loadsB_out {zs:List Int} {n:Nat} {ls:List Int} {q:Nat} (h:loadsB zs n ls q=true):archB zs n=true/\q<=6/\allTo (loadAt ls n) q:=by
 simp only [loadsB,Bool.and_eq_true,decide_eq_true_eq] at h;exact ⟨h.1,h.2.1,allB_out h.2.2⟩
theorem ldCells {wr:World} {b off n j:Nat} {zs:List Int} (hc:∀ i,i<n*3->wr.cell? ⟨b,off+i,none⟩=some (.int .i64 (nth zs i))) (hj:j<n) :
  wr.cell? ⟨b,off+j*3,none⟩=some (.int .i64 (nth zs (j*3)))/\wr.cell? ⟨b,off+j*3+1,none⟩=some (.int .i64 (nth zs (j*3+1)))/\wr.cell? ⟨b,off+j*3+2,none⟩=some (.int .i64 (nth zs (j*3+2))) :=
 ⟨hc _ (by omega),by have:=hc (j*3+1) (by omega); rwa [<- Nat.add_assoc] at this,by have:=hc (j*3+2) (by omega); rwa [<- Nat.add_assoc] at this⟩
theorem sLoadsOk_any (A:Option Addr) (n c:Nat) (zs:List Int) (B:Option Addr) (q d:Nat) (ls:List Int) (w:World) (h:RecsAt w w.heap.size 4 A n zs) (hn:n<=1048576) (hl:RecsAt w w.heap.size 3 B q ls) (hq:q<=1048576) :
  Calls Tryzx.prog 53 #[.agg #[.slice A n c],.slice B q d] w fun e w'=>e = .returned (.bool (loadsB zs n ls q))/\Below w.heap.size w w':=by
 have HA:=q_ ((Below.refl w.heap.size w).alloc (Nat.le_refl _) (.cells #[.slice A n c] 45));have H:=q_ h;have HL:=q_ hl;clear h hl;go_enter Tryzx.func53,Tryz.ntmps53;go_wp2;go_loopw [5] (fun i wr=>∃ k:Nat,k<=q/\i = .int .i64 k/\allTo (loadAt ls n) k/\wr.cell? ⟨w.heap.size,0,none⟩=some (.slice A n c)/\Below w.heap.size w wr) (fun i _=>q - (intOf i).toNat)
 case atStart=>exact ⟨0,Nat.zero_le _,rfl,allTo_0 _,cell_new0 _ _ _,HA.out⟩
 case round =>
  clear HA;obtain ⟨k,hk,rfl,hag,hbox,hb⟩:=hrel;have HB:=q_ hb;have hgl:=World.block_lt_of_cell? wr _ hbox;simp only at hgl;by_cases hlt:k<q
  ·obtain ⟨b,off,rfl,hbB,hc⟩:=HL.out.2 (by omega)
   obtain ⟨x0,x1,x2⟩:=ldCells (fun i hi=>(hb.cell (by exact hbB)).trans (hc i hi)) hlt;have hz:=hb.size;have HB0:=q_ (fun o=>hb.alloc hz o);have HBX:=q_ (fun o=>(World.cell?_alloc_lt wr o ⟨w.heap.size,0,none⟩ (by simp; omega)).trans hbox)
   clear hb hc;have T1:=q_ (fun e=>loadsB_3 zs hlt (loadAt_1 (ls:=ls) (n:=n) (i:=k) e));have T2:=q_ (fun e=>loadsB_3 zs hlt (loadAt_2 (ls:=ls) n (i:=k) e));have T3:=q_ (fun e=>loadsB_3 zs hlt (loadAt_3 (ls:=ls) n (i:=k) e));have TS:=q_ (fun e1 e2 e3=>allTo_step hag (loadAt_t (ls:=ls) (n:=n) (i:=k) e1 e2 e3));generalize nth ls (k*3)=y0 at *
   generalize nth ls (k*3+1)=y1 at *
   generalize nth ls (k*3+2)=y2 at *
   clear hag;cases h1:inB y0 0 ((n:Int) - 2)
   ·have HF:=q_ (T1.out h1)
    go_wp2_with (go_at_call 52; refine (l01In_any _ _ _ _).mono ?_; rw [h1]; rintro e w' ⟨rfl,rfl⟩);go_ret;exact ⟨ret_bool HF.out.symm,HB0.out _⟩
   ·cases h2:inB y1 0 10000
    ·have HF:=q_ (T2.out h2)
     go_wp2_with (go_at_call 52; refine (l01In_any _ _ _ _).mono ?_; (first | rw [h1] | rw [h2]); rintro e w' ⟨rfl,rfl⟩);go_ret;exact ⟨ret_bool HF.out.symm,HB0.out _⟩
    ·cases h3:inB y2 (-60) 60
     ·have HF:=q_ (T3.out h3)
      go_wp2_with (go_at_call 52; refine (l01In_any _ _ _ _).mono ?_; (first | rw [h1] | rw [h2] | rw [h3]); rintro e w' ⟨rfl,rfl⟩);go_ret;exact ⟨ret_bool HF.out.symm,HB0.out _⟩
     ·have HS:=q_ (TS.out h1 h2 h3)
      go_wp2_with (go_at_call 52; refine (l01In_any _ _ _ _).mono ?_; (first | rw [h1] | rw [h2] | rw [h3]); rintro e w' ⟨rfl,rfl⟩);go_roundw
      case rel=>exact ⟨k+1,by omega,by go_num,HS.out,HBX.out _,HB0.out _⟩
      case measure=>first | (simp [intOf]; done) | (simp [intOf]; omega)
  ·obtain rfl:k=q:=by omega
   have HAG:=q_ hag;have h1:=(H.out.below hb).mono hb.size;clear hb hag;cases hA:archB zs n
   ·have HF:=q_ (loadsB_1 ls k hA)
    go_wp2_with fail
    refine (sArchOk_any _ _ _ zs _ h1 hn).mono ?_;rw [hA];rintro e w1 ⟨rfl,hb1⟩;have HB1:=q_ (HB.out.trans (hb1.mono HB.out.size));go_wp2;go_ret;exact ⟨ret_bool HF.out.symm,HB1.out⟩
   ·by_cases hq6:k<=6
    ·have HF:=q_ (loadsB_t hA hq6 HAG.out)
     have ht:decide ((k:Int)<=6)=true:=by simp; omega
     go_wp2_with fail
     refine (sArchOk_any _ _ _ zs _ h1 hn).mono ?_;rw [hA];rintro e w1 ⟨rfl,hb1⟩;have HB1:=q_ (HB.out.trans (hb1.mono HB.out.size));go_wp2;go_ret;exact ⟨ret_bool HF.out.symm,HB1.out⟩
    ·have HF:=q_ (loadsB_2 zs n ls hq6)
     have ht:decide ((k:Int)<=6)=false:=by simp; omega
     go_wp2_with fail
     refine (sArchOk_any _ _ _ zs _ h1 hn).mono ?_;rw [hA];rintro e w1 ⟨rfl,hb1⟩;have HB1:=q_ (HB.out.trans (hb1.mono HB.out.size));go_wp2;go_ret;exact ⟨ret_bool HF.out.symm,HB1.out⟩
theorem iLoadsOk_any (A:Option Addr) (n c:Nat) (zs:List Int) (B:Option Addr) (q d:Nat) (ls:List Int) (w:World) (h:RecsAt w w.heap.size 4 A n zs) (hn:n<=1048576) (hl:RecsAt w w.heap.size 3 B q ls) (hq:q<=1048576) :
  Calls Tryzx.prog 45 #[.agg #[.slice A n c],.slice B q d] w fun e w'=>e = .returned (.bool (loadsB zs n ls q))/\Below w.heap.size w w':=by
 have HA:=q_ ((Below.refl w.heap.size w).alloc (Nat.le_refl _) (.cells #[.slice A n c] 45));have h1:RecsAt (w.alloc (.cells #[.slice A n c] 45)) (w.alloc (.cells #[.slice A n c] 45)).heap.size 4 A n zs:=(h.alloc (Nat.le_refl _) _).mono (by simp);have HL:=q_ hl;clear h hl;cases hA:archB zs n
 ·have HF:=q_ (loadsB_1 ls q hA)
  go_enter Tryzx.func45,Tryz.ntmps45;go_wp2_with fail
  refine (iArchOk_any _ _ _ zs _ h1 hn).mono ?_;rw [hA];rintro e w1 ⟨rfl,hb1⟩;have HB1:=q_ (HA.out.trans (hb1.mono (by simp)));go_wp2;go_ret;exact ⟨ret_bool HF.out.symm,HB1.out⟩
 by_cases hq6:q<=6
 ·have ht:¬ (6:Int)<(q:Int):=by omega
  have HT:=q_ (fun h3=>loadsB_t (ls:=ls) hA hq6 h3);go_enter Tryzx.func45,Tryz.ntmps45;go_wp2_with fail
  refine (iArchOk_any _ _ _ zs _ h1 hn).mono ?_;rw [hA];rintro e w1 ⟨rfl,hb1⟩;have HB1:=q_ (HA.out.trans (hb1.mono (by simp)));have hbox1:=(hb1.cell (p:=⟨w.heap.size,0,none⟩) (by simp)).trans (cell_new0 _ _ _);clear hb1;go_wp2;go_loopw [17] (fun i wr=>∃ k:Nat,k<=q/\i = .int .i64 k/\allTo (loadAt ls n) k/\wr.cell? ⟨w.heap.size,0,none⟩=some (.slice A n c)/\Below w.heap.size w wr) (fun i _=>q - (intOf i).toNat)
  case atStart=>exact ⟨0,Nat.zero_le _,rfl,allTo_0 _,hbox1,HB1.out⟩
  case round =>
   clear HA HB1 hbox1;obtain ⟨k,hk,rfl,hag,hbox,hb⟩:=hrel;have HB:=q_ hb;have hgl:=World.block_lt_of_cell? wr _ hbox;simp only at hgl;by_cases hlt:k<q
   ·obtain ⟨b,off,rfl,hbB,hc⟩:=HL.out.2 (by omega)
    obtain ⟨x0,x1,x2⟩:=ldCells (fun i hi=>(hb.cell (by exact hbB)).trans (hc i hi)) hlt;have hz:=hb.size;have HB0:=q_ (fun o=>hb.alloc hz o);have HBX:=q_ (fun o=>(World.cell?_alloc_lt wr o ⟨w.heap.size,0,none⟩ (by simp; omega)).trans hbox)
    clear hb hc;have T1:=q_ (fun e=>loadsB_3 zs hlt (loadAt_1 (ls:=ls) (n:=n) (i:=k) e));have T2:=q_ (fun e=>loadsB_3 zs hlt (loadAt_2 (ls:=ls) n (i:=k) e));have T3:=q_ (fun e=>loadsB_3 zs hlt (loadAt_3 (ls:=ls) n (i:=k) e));have TS:=q_ (fun e1 e2 e3=>allTo_step hag (loadAt_t (ls:=ls) (n:=n) (i:=k) e1 e2 e3));generalize nth ls (k*3)=y0 at *
    generalize nth ls (k*3+1)=y1 at *
    generalize nth ls (k*3+2)=y2 at *
    clear hag;cases g1:inB y0 0 ((n:Int) - 2)
    ·have HF:=q_ (T1.out g1)
     go_wp2_with (go_at_call 43; refine (within_any _ _ _ _).mono ?_; rw [g1]; rintro e w' ⟨rfl,rfl⟩);go_ret;exact ⟨ret_bool HF.out.symm,HB0.out _⟩
    ·cases g2:inB y1 0 10000
     ·have HF:=q_ (T2.out g2)
      go_wp2_with (go_at_call 43; refine (within_any _ _ _ _).mono ?_; (first | rw [g1] | rw [g2]); rintro e w' ⟨rfl,rfl⟩);go_ret;exact ⟨ret_bool HF.out.symm,HB0.out _⟩
     ·cases g3:inB y2 (-60) 60
      ·have HF:=q_ (T3.out g3)
       go_wp2_with (first | (go_at_call 43; refine (within_any _ _ _ _).mono ?_; (first | rw [g1] | rw [g2]); rintro e w' ⟨rfl,rfl⟩) | (go_at_call 73; refine (isPlace_any _ _).mono ?_; rw [g3]; rintro e w' ⟨rfl,rfl⟩));go_ret;exact ⟨ret_bool HF.out.symm,HB0.out _⟩
      ·have HS:=q_ (TS.out g1 g2 g3)
       go_wp2_with (first | (go_at_call 43; refine (within_any _ _ _ _).mono ?_; (first | rw [g1] | rw [g2]); rintro e w' ⟨rfl,rfl⟩) | (go_at_call 73; refine (isPlace_any _ _).mono ?_; rw [g3]; rintro e w' ⟨rfl,rfl⟩));go_roundw
       case rel=>exact ⟨k+1,by omega,by go_num,HS.out,HBX.out _,HB0.out _⟩
       case measure=>first | (simp [intOf]; done) | (simp [intOf]; omega)
   ·obtain rfl:k=q:=by omega
    have HF:=q_ (HT.out hag);clear hb hag;go_wp2;go_ret;exact ⟨ret_bool HF.out.symm,HB.out⟩
 ·have HF:=q_ (loadsB_2 zs n ls hq6)
  have ht:(6:Int)<(q:Int):=by omega
  go_enter Tryzx.func45,Tryz.ntmps45;go_wp2_with fail
  refine (iArchOk_any _ _ _ zs _ h1 hn).mono ?_;rw [hA];rintro e w1 ⟨rfl,hb1⟩;have HB1:=q_ (HA.out.trans (hb1.mono (by simp)));go_wp2;go_ret;exact ⟨ret_bool HF.out.symm,HB1.out⟩
end X
namespace X
open Go.RowKit
def swt (zs:List Int) (k:Nat):Int:=weightI (btwA zs k) 4
def smt (zs:List Int) (k:Nat):Int:=overI facX (btwA zs k) 4
theorem swt_bd (zs:List Int) (k:Nat) : -129600<=swt zs k/\swt zs k<=129600:=weightI_bd _ _
theorem smt_bd (zs:List Int) (k:Nat) : -5184000<=smt zs k/\smt zs k<=5184000:=overI_bd facX_ok _ _
def ldW (ls:List Int) (k:Nat):Nat->Int
 | 0=>0
 | i+1=>ldW ls k i+if nth ls (i*3)=(k:Int) then nth ls (i*3+1) else 0
def ldM (ls:List Int) (k:Nat):Nat->Int
 | 0=>0
 | i+1=>ldM ls k i+if nth ls (i*3)=(k:Int) then nth ls (i*3+1)*nth ls (i*3+2) else 0
theorem ldW_t {ls:List Int} {k i:Nat} (h:nth ls (i*3)=(k:Int)):ldW ls k (i+1)=ldW ls k i+nth ls (i*3+1):=by simp [ldW,h]
theorem ldW_f {ls:List Int} {k i:Nat} (h:¬ nth ls (i*3)=(k:Int)):ldW ls k (i+1)=ldW ls k i:=by simp [ldW,h]
theorem ldM_t {ls:List Int} {k i:Nat} (h:nth ls (i*3)=(k:Int)):ldM ls k (i+1)=ldM ls k i+nth ls (i*3+1)*nth ls (i*3+2):=by simp [ldM,h]
theorem ldM_f {ls:List Int} {k i:Nat} (h:¬ nth ls (i*3)=(k:Int)):ldM ls k (i+1)=ldM ls k i:=by simp [ldM,h]
theorem loadAt_out {ls:List Int} {n i:Nat} (h:loadAt ls n i=true):(0<=nth ls (i*3)/\nth ls (i*3)<=(n:Int) - 2)/\(0<=nth ls (i*3+1)/\nth ls (i*3+1)<=10000)/\(-60<=nth ls (i*3+2)/\nth ls (i*3+2)<=60):=by
 simp only [loadAt,Bool.and_eq_true,inB_iff] at h;exact ⟨h.1,h.2.1,h.2.2⟩
theorem wx_bd {a b:Int} (ha:0<=a/\a<=10000) (hb : -60<=b/\b<=60) : -600000<=a*b/\a*b<=600000:=by
 have:=mul_bd (a:=a) (b:=b) (m:=10000) (n:=60) (by omega) hb;omega
theorem ldW_bd {ls:List Int} {n q:Nat} (h:allTo (loadAt ls n) q) (k:Nat):∀ i:Nat,i<=q->0<=ldW ls k i/\ldW ls k i<=10000*(i:Int)
 | 0,_=>by simp [ldW]
 | i+1,hi=>by
  have ih:=ldW_bd h k i (by omega);have:=loadAt_out (h i (by omega));simp only [ldW];split <;> omega
theorem ldM_bd {ls:List Int} {n q:Nat} (h:allTo (loadAt ls n) q) (k:Nat):∀ i:Nat,i<=q -> -(600000*(i:Int))<=ldM ls k i/\ldM ls k i<=600000*(i:Int)
 | 0,_=>by simp [ldM]
 | i+1,hi=>by
  have ih:=ldM_bd h k i (by omega);have h1:=loadAt_out (h i (by omega));have:=wx_bd h1.2.1 h1.2.2;simp only [ldM];split <;> omega
def kwTo (zs ls:List Int) (k i:Nat):Int:=swt zs k+ldW ls k i
def kmTo (zs ls:List Int) (k i:Nat):Int:=smt zs k+ldM ls k i
theorem kwTo_0 (zs ls:List Int) (k:Nat):kwTo zs ls k 0=swt zs k:=by simp [kwTo,ldW]
theorem kmTo_0 (zs ls:List Int) (k:Nat):kmTo zs ls k 0=smt zs k:=by simp [kmTo,ldM]
theorem kwTo_t (zs:List Int) {ls:List Int} {k i:Nat} (h:nth ls (i*3)=(k:Int)):kwTo zs ls k (i+1)=kwTo zs ls k i+nth ls (i*3+1):=by simp only [kwTo,ldW_t h]; omega
theorem kwTo_f (zs:List Int) {ls:List Int} {k i:Nat} (h:¬ nth ls (i*3)=(k:Int)):kwTo zs ls k (i+1)=kwTo zs ls k i:=by simp only [kwTo,ldW_f h]
theorem kmTo_t (zs:List Int) {ls:List Int} {k i:Nat} (h:nth ls (i*3)=(k:Int)):kmTo zs ls k (i+1)=kmTo zs ls k i+nth ls (i*3+1)*nth ls (i*3+2):=by simp only [kmTo,ldM_t h]; omega
theorem kmTo_f (zs:List Int) {ls:List Int} {k i:Nat} (h:¬ nth ls (i*3)=(k:Int)):kmTo zs ls k (i+1)=kmTo zs ls k i:=by simp only [kmTo,ldM_f h]
theorem kwTo_bd {ls:List Int} {n q:Nat} (zs:List Int) (h:allTo (loadAt ls n) q) (hq:q<=6) (k:Nat) {i:Nat} (hi:i<=q) : -200000<=kwTo zs ls k i/\kwTo zs ls k i<=200000:=by
 have h1:=swt_bd zs k;have h2:=ldW_bd h k i hi;unfold kwTo;omega
theorem kmTo_bd {ls:List Int} {n q:Nat} (zs:List Int) (h:allTo (loadAt ls n) q) (hq:q<=6) (k:Nat) {i:Nat} (hi:i<=q) : -9000000<=kmTo zs ls k i/\kmTo zs ls k i<=9000000:=by
 have h1:=smt_bd zs k;have h2:=ldM_bd h k i hi;unfold kmTo;omega
def leftW (zs ls:List Int) (q:Nat):Nat->Int
 | 0=>0
 | k+1=>leftW zs ls q k+kwTo zs ls k q
def leftM (zs ls:List Int) (q:Nat):Nat->Int
 | 0=>0
 | k+1=>leftM zs ls q k+kmTo zs ls k q
theorem leftW_bd {ls:List Int} {n q:Nat} (zs:List Int) (h:allTo (loadAt ls n) q) (hq:q<=6):∀ k:Nat,-(200000*(k:Int))<=leftW zs ls q k/\leftW zs ls q k<=200000*(k:Int)
 | 0=>by simp [leftW]
 | k+1=>by
  have ih:=leftW_bd zs h hq k;have:=kwTo_bd zs h hq k (Nat.le_refl q);simp only [leftW];omega
theorem leftM_bd {ls:List Int} {n q:Nat} (zs:List Int) (h:allTo (loadAt ls n) q) (hq:q<=6):∀ k:Nat,-(9000000*(k:Int))<=leftM zs ls q k/\leftM zs ls q k<=9000000*(k:Int)
 | 0=>by simp [leftM]
 | k+1=>by
  have ih:=leftM_bd zs h hq k;have:=kmTo_bd zs h hq k (Nat.le_refl q);simp only [leftM];omega
def wmL (zs ls:List Int) (i:Nat):Nat->List Int
 | 0 => []
 | k+1=>wmL zs ls i k ++ [kwTo zs ls k i,kmTo zs ls k i]
theorem wmL_len (zs ls:List Int) (i:Nat):∀ k,(wmL zs ls i k).length=k*2
 | 0=>rfl
 | k+1=>by simp [wmL,wmL_len zs ls i k]; omega
theorem wmL_nth (zs ls:List Int) (i:Nat):∀ {m k:Nat},k<m->nth (wmL zs ls i m) (k*2)=kwTo zs ls k i/\nth (wmL zs ls i m) (k*2+1)=kmTo zs ls k i
 | 0,k,h=>absurd h (by omega)
 | m+1,k,h=>by
  have hl:=wmL_len zs ls i m;by_cases e:k=m
  ·subst e
   simp only [wmL];exact ⟨by simp [nth,List.getD,hl],by simp [nth,List.getD,<- hl]⟩
  ·have ih:=wmL_nth zs ls i (m:=m) (k:=k) (by omega)
   simp only [wmL];refine ⟨?_,?_⟩
   ·rw [<- ih.1]; simp only [nth,List.getD]; rw [List.getElem?_append_left (by omega)]
   ·rw [<- ih.2]; simp only [nth,List.getD]; rw [List.getElem?_append_left (by omega)]
end X
namespace X
open Go.RowKit
def sumW (xs:List Int):Nat->Int
 | 0=>0
 | k+1=>sumW xs k+nth xs (k*2)
def sumM (xs:List Int):Nat->Int
 | 0=>0
 | k+1=>sumM xs k+nth xs (k*2+1)
def rowJ (zs:List Int) (W M:Nat->Int) (k:Nat):List Int :=
 [nth zs (k*4+1),-nth zs (k*4),1,M k - nth zs (k*4)*W k,-nth zs (k*4+3),nth zs (k*4+2),-1,nth zs (k*4+2)*W k - M k]
def rowTo (zs:List Int) (W M:Nat->Int):Nat->List Int
 | 0 => []
 | k+1=>rowTo zs W M k ++ rowJ zs W M k
def rowsL (zs:List Int) (W M:Nat->Int) (n:Nat):List Int:=rowTo zs W M n ++ [-1,0,0,0]
section
variable {zs : List Int} {W M W' M' : Nat -> Int}
theorem rowTo_len (zs:List Int) (W M:Nat->Int):∀ k,(rowTo zs W M k).length=k*8
 | 0=>rfl
 | k+1=>by simp [rowTo,rowTo_len zs W M k,rowJ]; omega
theorem rowTo_congr:∀ {n:Nat},(∀ k,k<n->W k=W' k/\M k=M' k)->rowTo zs W M n=rowTo zs W' M' n
 | 0,_=>rfl
 | n+1,h=>by
  simp only [rowTo];rw [rowTo_congr (fun k hk=>h k (by omega))];simp only [rowJ,(h n (by omega)).1,(h n (by omega)).2]
theorem rowsL_congr {n:Nat} (h:∀ k,k<n->W k=W' k/\M k=M' k):rowsL zs W M n=rowsL zs W' M' n:=by
 unfold rowsL;rw [rowTo_congr h]
end
theorem nthA_l {xs ys:List Int} {i:Nat} (h:i<xs.length):nth (xs ++ ys) i=nth xs i:=by simp only [nth,List.getD]; rw [List.getElem?_append_left h]
theorem nthA_r {xs ys:List Int} {i:Nat} (j:Nat) (h:i=xs.length+j):nth (xs ++ ys) i=nth ys j:=by
 subst h;simp only [nth,List.getD];rw [List.getElem?_append_right (by omega),Nat.add_sub_cancel_left]
theorem rowTo_nth (zs:List Int) (W M:Nat->Int):∀ {m k j:Nat},k<m->j<8->nth (rowTo zs W M m) (k*8+j)=nth (rowJ zs W M k) j
 | 0,k,j,h,_=>absurd h (by omega)
 | m+1,k,j,h,hj=>by
  have hl:=rowTo_len zs W M m;simp only [rowTo];by_cases e:k=m
  ·subst e
   exact nthA_r j (by omega)
  ·rw [nthA_l (by omega)]
   exact rowTo_nth zs W M (by omega) hj
def rowB (a b c d:Int):Bool:=inB a (-100) 100 && (inB b (-100) 100 && (inB c (-1) 1 && inB d (-1000000000) 1000000000))
theorem rowB_1 {a:Int} (b c d:Int) (h:inB a (-100) 100=false):rowB a b c d=false:=by simp [rowB,h]
theorem rowB_2 (a:Int) {b:Int} (c d:Int) (h:inB b (-100) 100=false):rowB a b c d=false:=by simp [rowB,h]
theorem rowB_3 (a b:Int) {c:Int} (d:Int) (h:inB c (-1) 1=false):rowB a b c d=false:=by simp [rowB,h]
theorem rowB_t {a b c:Int} (d:Int) (h1:inB a (-100) 100=true) (h2:inB b (-100) 100=true) (h3:inB c (-1) 1=true):rowB a b c d=inB d (-1000000000) 1000000000:=by simp [rowB,h1,h2,h3]
theorem rowB_iff {a b c d:Int}:rowB a b c d=true ↔ (-100<=a/\a<=100)/\(-100<=b/\b<=100)/\(-1<=c/\c<=1)/\(-1000000000<=d/\d<=1000000000):=by simp [rowB,inB_iff]
def rowAt (rs:List Int) (i:Nat):Bool:=rowB (nth rs (i*4)) (nth rs (i*4+1)) (nth rs (i*4+2)) (nth rs (i*4+3))
def WMok (W M:Nat->Int) (n:Nat):Prop:=∀ k,k<n->(-2000000<=W k/\W k<=2000000)/\(-80000000<=M k/\M k<=80000000)
theorem archB_ptsR {zs:List Int} {n:Nat} (h:archB zs n=true):∀ m,m<n->ptB (nth zs (m*4)) (nth zs (m*4+1))=true/\ptB (nth zs (m*4+2)) (nth zs (m*4+3))=true:=by
 obtain ⟨hn,hp⟩:=archB_out h;intro m hm;by_cases e:m+1<n
 ·have h1:=hp m (by omega)
  simp only [pairB,Bool.and_eq_true] at h1;have h2:=(stoneB_out h1.1).2.1;exact ⟨h2 0 (by omega),h2 3 (by omega)⟩
 ·obtain ⟨k,rfl⟩:∃ k,m=k+1:=⟨m - 1,by omega⟩
  have h1:=hp k (by omega);simp only [pairB,Bool.and_eq_true] at h1;have h2:=(stoneB_out h1.1).2.1;exact ⟨h2 1 (by omega),h2 2 (by omega)⟩
structure JBd (ix iy ox oy w m:Int):Prop where
 pi:(-60<=ix/\ix<=60)/\(-60<=iy/\iy<=60)
 po:(-60<=ox/\ox<=60)/\(-60<=oy/\oy<=60)
 hw : -2000000<=w/\w<=2000000
 hm : -80000000<=m/\m<=80000000
 iw : -120000000<=ix*w/\ix*w<=120000000
 ow : -120000000<=ox*w/\ox*w<=120000000
theorem jBd_of {zs:List Int} {W M:Nat->Int} {n k:Nat} (hA:archB zs n=true) (h:WMok W M n) (hk:k<n):JBd (nth zs (k*4)) (nth zs (k*4+1)) (nth zs (k*4+2)) (nth zs (k*4+3)) (W k) (M k):=by
 have hp:=archB_ptsR hA k hk;rw [ptB_iff,ptB_iff] at hp;have hw:=h k hk;have e1:=mul_bd (a:=nth zs (k*4)) (b:=W k) (m:=60) (n:=2000000) (by omega) hw.1;have e2:=mul_bd (a:=nth zs (k*4+2)) (b:=W k) (m:=60) (n:=2000000) (by omega) hw.1;exact ⟨hp.1,hp.2,hw.1,hw.2,by omega,by omega⟩
theorem rowsL_ok {zs:List Int} {W M:Nat->Int} {n:Nat} (hA:archB zs n=true) (h:WMok W M n):∀ i,i<n*2+1->rowAt (rowsL zs W M n) i=true:=by
 intro i hi;have hl:=rowTo_len zs W M n;by_cases e:i=n*2
 ·subst e
  unfold rowAt rowsL;rw [nthA_r 0 (by omega),nthA_r 1 (by omega),nthA_r 2 (by omega),nthA_r 3 (by omega)];decide
 ·have hk:i / 2<n:=by omega
  obtain ⟨hpi,hpo,hw,hm,hiw,how⟩:=jBd_of hA h hk;unfold rowAt rowsL;rw [nthA_l (by omega),nthA_l (by omega),nthA_l (by omega),nthA_l (by omega)];rcases Nat.mod_two_eq_zero_or_one i with e2 | e2
  ·rw [show i*4=i / 2*8+0 by omega,show i / 2*8+0+1=i / 2*8+1 by omega,show i / 2*8+0+2=i / 2*8+2 by omega,show i / 2*8+0+3=i / 2*8+3 by omega]
   rw [rowTo_nth _ _ _ hk (by omega),rowTo_nth _ _ _ hk (by omega),rowTo_nth _ _ _ hk (by omega),rowTo_nth _ _ _ hk (by omega),rowB_iff];simp only [rowJ,nth,List.getD_cons_zero,List.getD_cons_succ] at *
   omega
  ·rw [show i*4=i / 2*8+4 by omega,show i / 2*8+4+1=i / 2*8+5 by omega,show i / 2*8+4+2=i / 2*8+6 by omega,show i / 2*8+4+3=i / 2*8+7 by omega]
   rw [rowTo_nth _ _ _ hk (by omega),rowTo_nth _ _ _ hk (by omega),rowTo_nth _ _ _ hk (by omega),rowTo_nth _ _ _ hk (by omega),rowB_iff];simp only [rowJ,nth,List.getD_cons_zero,List.getD_cons_succ] at *
   omega
end X
namespace X
open Go.RowKit
def mkBd (h v m d:Int):Bool:=inB h (-4000000000000000000) 4000000000000000000 && (inB v (-4000000000000000000) 4000000000000000000 && (inB m (-4000000000000000000) 4000000000000000000 && inB d (-4000000000000000000) 4000000000000000000))
def mkG (h v m d:Int):Int:=if d<0 then -(gcd4 h v m d:Int) else gcd4 h v m d
def mkT (h v m d:Int):Bool:=thrB (Int.tdiv h (mkG h v m d)) (Int.tdiv v (mkG h v m d)) (Int.tdiv m (mkG h v m d)) (Int.tdiv d (mkG h v m d))
def mkB (h v m d:Int):Bool := !decide (d=0) && (mkBd h v m d && mkT h v m d)
def mkI (h v m d x:Int):Int:=if mkB h v m d=true then Int.tdiv x (mkG h v m d) else 0
theorem mkB_0 (h v m:Int) {d:Int} (hd:d=0):mkB h v m d=false:=by simp [mkB,hd]
theorem mkB_1 {h v m d:Int} (hb:mkBd h v m d=false):mkB h v m d=false:=by simp [mkB,hb]
theorem mkB_2 {h v m d:Int} (hb:mkT h v m d=false):mkB h v m d=false:=by simp [mkB,hb]
theorem mkB_t {h v m d:Int} (hd:¬ d=0) (hb:mkBd h v m d=true) (ht:mkT h v m d=true):mkB h v m d=true:=by simp [mkB,hb,hd,ht]
theorem mkI_f {h v m d:Int} (hb:mkB h v m d=false) (x:Int):mkI h v m d x=0:=by simp [mkI,hb]
theorem mkI_t {h v m d:Int} (hb:mkB h v m d=true) (x:Int):mkI h v m d x=Int.tdiv x (mkG h v m d):=by simp [mkI,hb]
theorem mkI_thr {h v m d:Int} (hb:mkB h v m d=true):thrB (mkI h v m d h) (mkI h v m d v) (mkI h v m d m) (mkI h v m d d)=true:=by
 simp only [mkI_t hb];simp only [mkB,Bool.and_eq_true] at hb;exact hb.2.2
theorem mkBd_out {h v m d:Int} (hb:mkBd h v m d=true):okG h/\okG v/\okG m/\okG d:=by
 simp only [mkBd,Bool.and_eq_true,inB_iff] at hb;exact hb
theorem mkG_ne (h v m:Int) {d:Int} (hd:¬ d=0):mkG h v m d ≠ 0:=by
 have:=gcd4_pos (a:=h) (b:=v) (c:=m) hd;unfold mkG;split <;> omega
theorem tdiv_bd {x g:Int} (h:okG x):okG (Int.tdiv x g):=by
 have h1:(Int.tdiv x g).natAbs<=x.natAbs:=by
  rw [Int.natAbs_tdiv];exact Nat.div_le_self _ _
 unfold okG at *
 omega
theorem okG_wrap {x:Int} (h:okG x):IntKind.i64.wrap x=x:=by
 unfold okG at h;exact iW (by omega)
def det9 (a0 a1 a2 b0 b1 b2 c0 c1 c2:Int):Int:=a0*(b1*c2 - b2*c1) - a1*(b0*c2 - b2*c0)+a2*(b0*c1 - b1*c0)
structure DetBd (a0 a1 a2 b0 b1 b2 c0 c1 c2:Int):Prop where
 p1 : -1000000000000000000<=b1*c2/\b1*c2<=1000000000000000000
 p2 : -1000000000000000000<=b2*c1/\b2*c1<=1000000000000000000
 p3 : -1000000000000000000<=b0*c2/\b0*c2<=1000000000000000000
 p4 : -1000000000000000000<=b2*c0/\b2*c0<=1000000000000000000
 p5 : -1000000000000000000<=b0*c1/\b0*c1<=1000000000000000000
 p6 : -1000000000000000000<=b1*c0/\b1*c0<=1000000000000000000
 q1 : -1000000000000000000<=a0*(b1*c2 - b2*c1)/\a0*(b1*c2 - b2*c1)<=1000000000000000000
 q2 : -1000000000000000000<=a1*(b0*c2 - b2*c0)/\a1*(b0*c2 - b2*c0)<=1000000000000000000
 q3 : -1000000000000000000<=a2*(b0*c1 - b1*c0)/\a2*(b0*c1 - b1*c0)<=1000000000000000000
theorem detBd {a0 a1 a2 b0 b1 b2 c0 c1 c2 P Q R:Int} (ha:(-P<=a0/\a0<=P)/\(-Q<=a1/\a1<=Q)/\(-R<=a2/\a2<=R)) (hb:(-P<=b0/\b0<=P)/\(-Q<=b1/\b1<=Q)/\(-R<=b2/\b2<=R)) (hc:(-P<=c0/\c0<=P)/\(-Q<=c1/\c1<=Q)/\(-R<=c2/\c2<=R))
  (hk:(Q*R<=1000000000000000000/\P*R<=1000000000000000000/\P*Q<=1000000000000000000)/\(P*(2*(Q*R))<=1000000000000000000/\Q*(2*(P*R))<=1000000000000000000/\R*(2*(P*Q))<=1000000000000000000)):DetBd a0 a1 a2 b0 b1 b2 c0 c1 c2:=by
 obtain ⟨a0',a1',a2'⟩:=ha;obtain ⟨b0',b1',b2'⟩:=hb;obtain ⟨c0',c1',c2'⟩:=hc;obtain ⟨⟨k1,k2,k3⟩,⟨k4,k5,k6⟩⟩:=hk;have p1:=mul_bd b1' c2';have p2:=mul_bd b2' c1';have p3:=mul_bd b0' c2';have p4:=mul_bd b2' c0';have p5:=mul_bd b0' c1';have p6:=mul_bd b1' c0';rw [Int.mul_comm R Q] at p2;rw [Int.mul_comm R P] at p4;rw [Int.mul_comm Q P] at p6;have q1:=mul_bd (b:=b1*c2 - b2*c1) (n:=2*(Q*R)) a0' (by omega);have q2:=mul_bd (b:=b0*c2 - b2*c0) (n:=2*(P*R)) a1' (by omega);have q3:=mul_bd (b:=b0*c1 - b1*c0) (n:=2*(P*Q)) a2' (by omega);exact ⟨by omega,by omega,by omega,by omega,by omega,by omega,by omega,by omega,by omega⟩
structure DetW (a0 a1 a2 b0 b1 b2 c0 c1 c2:Int):Prop where
 w1:IntKind.i64.wrap (b1*c2)=b1*c2
 w2:IntKind.i64.wrap (b2*c1)=b2*c1
 w3:IntKind.i64.wrap (b0*c2)=b0*c2
 w4:IntKind.i64.wrap (b2*c0)=b2*c0
 w5:IntKind.i64.wrap (b0*c1)=b0*c1
 w6:IntKind.i64.wrap (b1*c0)=b1*c0
 s1:IntKind.i64.wrap (b1*c2 - b2*c1)=b1*c2 - b2*c1
 s2:IntKind.i64.wrap (b0*c2 - b2*c0)=b0*c2 - b2*c0
 s3:IntKind.i64.wrap (b0*c1 - b1*c0)=b0*c1 - b1*c0
 m1:IntKind.i64.wrap (a0*(b1*c2 - b2*c1))=a0*(b1*c2 - b2*c1)
 m2:IntKind.i64.wrap (a1*(b0*c2 - b2*c0))=a1*(b0*c2 - b2*c0)
 m3:IntKind.i64.wrap (a2*(b0*c1 - b1*c0))=a2*(b0*c1 - b1*c0)
 t1:IntKind.i64.wrap (a0*(b1*c2 - b2*c1) - a1*(b0*c2 - b2*c0))=a0*(b1*c2 - b2*c1) - a1*(b0*c2 - b2*c0)
 t2:IntKind.i64.wrap (a0*(b1*c2 - b2*c1) - a1*(b0*c2 - b2*c0)+a2*(b0*c1 - b1*c0))=a0*(b1*c2 - b2*c1) - a1*(b0*c2 - b2*c0)+a2*(b0*c1 - b1*c0)
theorem DetBd.wraps {a0 a1 a2 b0 b1 b2 c0 c1 c2:Int} (h:DetBd a0 a1 a2 b0 b1 b2 c0 c1 c2):DetW a0 a1 a2 b0 b1 b2 c0 c1 c2:=by
 obtain ⟨p1,p2,p3,p4,p5,p6,q1,q2,q3⟩:=h;exact ⟨iW (by omega),iW (by omega),iW (by omega),iW (by omega),iW (by omega),iW (by omega),iW (by omega),iW (by omega),iW (by omega),iW (by omega),iW (by omega),iW (by omega),iW (by omega),iW (by omega)⟩
theorem DetBd.out {a0 a1 a2 b0 b1 b2 c0 c1 c2:Int} (h:DetBd a0 a1 a2 b0 b1 b2 c0 c1 c2):okG (det9 a0 a1 a2 b0 b1 b2 c0 c1 c2):=by
 obtain ⟨p1,p2,p3,p4,p5,p6,q1,q2,q3⟩:=h;unfold okG det9;omega
theorem rows_det {pa pb pc pd qa qb qc qd ra rb rc rd:Int} (hp:rowB pa pb pc pd=true) (hq:rowB qa qb qc qd=true) (hr:rowB ra rb rc rd=true) :
  DetBd pa pb pc qa qb qc ra rb rc/\DetBd pd pb pc qd qb qc rd rb rc/\DetBd pa pd pc qa qd qc ra rd rc/\DetBd pa pb pd qa qb qd ra rb rd:=by
 rw [rowB_iff] at hp hq hr;exact ⟨detBd (P:=100) (Q:=100) (R:=1) (by omega) (by omega) (by omega) (by decide),detBd (P:=1000000000) (Q:=100) (R:=1) (by omega) (by omega) (by omega) (by decide),detBd (P:=100) (Q:=1000000000) (R:=1) (by omega) (by omega) (by omega) (by decide),detBd (P:=100) (Q:=100) (R:=1000000000) (by omega) (by omega) (by omega) (by decide)⟩
def solD (pa pb pc pd qa qb qc qd ra rb rc rd:Int):Int:=if (rowB pa pb pc pd && (rowB qa qb qc qd && rowB ra rb rc rd))=true then det9 pa pb pc qa qb qc ra rb rc else 0
end X
namespace X
open Go.RowKit
theorem infoInt:(Tryzx.prog.info? 3).map (fun i=>(i.zero,i.size,i.bytes))=some (some (.int .i64 0),1,8):=by kernel_rfl
end X
namespace X
open Go.RowKit
section
variable {w w1 w2 : World}
theorem below_then (h:Below w.heap.size w w1) (h':Below w1.heap.size w1 w2):Below w.heap.size w w2:=h.trans (h'.mono h.size)
def Box (w:World) (b:Nat) (v:Value):Prop:=w.cell? ⟨b,0,none⟩=some v/\b<w.heap.size
theorem Box.after {b:Nat} {v:Value} (h:Box w b v) (hb:Below w.heap.size w w1):Box w1 b v:=⟨(hb.cell (p:=⟨b,0,none⟩) h.2).trans h.1,Nat.lt_of_lt_of_le h.2 hb.size⟩
theorem Box.alloc {b:Nat} {v:Value} (h:Box w b v) (o:Obj):Box (w.alloc o) b v:=h.after (bnw _ _)
theorem Box.new (w:World) (v:Value) (t:TypeId):Box (w.alloc (.cells #[v] t)) w.heap.size v:=⟨cell_new1 w v t,by simp⟩
theorem Box.drewN {b:Nat} {v:Value} (h:Box w b v) (k:Nat):Box (w.drewN k) b v:=h
def Box2 (w:World) (b:Nat) (u v:Value):Prop:=w.cell? ⟨b,0,none⟩=some u/\w.cell? ⟨b,1,none⟩=some v/\b<w.heap.size
theorem Box2.after {b:Nat} {u v:Value} (h:Box2 w b u v) (hb:Below w.heap.size w w1):Box2 w1 b u v:=⟨(hb.cell (p:=⟨b,0,none⟩) h.2.2).trans h.1,(hb.cell (p:=⟨b,1,none⟩) h.2.2).trans h.2.1,Nat.lt_of_lt_of_le h.2.2 hb.size⟩
theorem Box2.new (w:World) (u v:Value) (t:TypeId):Box2 (w.alloc (.cells #[u,v] t)) w.heap.size u v:=by
 have hr:(w.alloc (.cells #[u,v] t)).rowIs w.heap.size t 2 (fun i=>if i=0 then u else v):=World.rowIs_alloc w #[u,v] t _ (fun i hi=>by simp at hi; match i,hi with | 0,_=>rfl | 1,_=>rfl)
 exact ⟨hr.cell (by omega),hr.cell (by omega),by simp⟩
theorem below_undrew (h:Below w.drew.heap.size w.drew w1):Below w.heap.size w w1:=⟨h.os,h.tape,h.output,h.size,h.block⟩
end
end X
end Go.Proofs.YtjcgklifabcfkaaGreat
