/-
  Texts that the law stands on, part 21.
-/
import Derived.Test.YtjcgklifabcfkaaGreatN1
import Derived.Test.YtjcgklifabcfkaaGreatN11
import Derived.Test.YtjcgklifabcfkaaGreatN16
import Derived.Test.YtjcgklifabcfkaaGreatN17
import Derived.Test.YtjcgklifabcfkaaGreatN18
import Derived.Test.YtjcgklifabcfkaaGreatN20
import Derived.Test.YtjcgklifabcfkaaGreatN10
import Derived.Deep.RegionHeld3
import Derived.Deep.RegionLaw
set_option maxRecDepth 100000
set_option linter.unusedVariables false
set_option linter.unusedSimpArgs false
namespace Go.Proofs.YtjcgklifabcfkaaGreat
namespace Rn
open Go.Conc Go.WideShapes
def AtCells (v:World) (A:Option Addr):Prop:=∀ a,A=some a→a.spot=none∧∃ c t z,v.heap[a.block]?=some (.cells c t z)
section
variable {P : Program} {w : World} {r : Reach} {base : Nat} {t e u : TypeId} {fs : Array Field} {A : Option Addr} {n c : Nat}
theorem has_cells {a:Addr} {k:Nat} (h:World.has P w r base a e k):a.spot=none∧∃ c t z,w.heap[a.block]?=some (.cells c t z):=by
 obtain ⟨_,h1,row,cells,h2,_⟩:=h;refine ⟨h1,?_⟩;unfold World.shape? at h2;split at h2
 ·rename_i c el z h; exact ⟨_,_,_,h⟩
 ·cases h2
theorem cell_atCells (ht:P.underlying t=some (.slice e)) (h:Cell.okWide P w r base t (.slice A n c)):AtCells w A:=by
 intro a ha; subst ha;simp only [Cell.okWide,ht,Cell.ok] at h;exact has_cells h.2.2
end
noncomputable def winOf (k:IntKind) (A:Option Addr) (m:Nat) (zs:List Int):Win:=match A with
 | none=>⟨false,0,0,#[]⟩
 | some a=>⟨true,a.block,a.off,((List.range m).map fun i=>Value.int k (nth zs i)).toArray⟩
noncomputable def lA (A:Option Addr) (i:Nat):Option Addr:=match A with | none=>none | some _=>some ⟨Tryz.prog.globals.size+i,0,none⟩
section
variable {noT : TypeId} {ws : List Win} {v : World} {B K n i : Nat} {A : Option Addr} {zs : List Int}
def WinOk (noT:TypeId) (ws:List Win) (v:World) (x:Win):Prop:=x.live=true→∃ c' t' z',v.heap[x.blk]?=some (.cells c' t' z')∧∀ (k:Nat) u,x.cells[k]?=some u→∃ u',c'[k+x.off]?=some u'∧VR (gctx noT ws) (lR ws) u u'
theorem winsOk_nil:WinsOk noT ws v ↔ ∀ x ∈ ws,WinOk noT ws v x:=by
 refine ⟨fun h x hx => ?_,fun h i x hi=>h x (List.mem_of_getElem? hi)⟩;obtain ⟨i,hi⟩:=List.getElem?_of_mem hx;exact h i x hi
theorem vr_slice {k:IntKind} {m c:Nat} (hat:AtCells v A) (hi:ws[i]?=some (winOf k A m zs)):VR (gctx noT ws) (lR ws) (.slice (lA A i) n c) (.slice A n c):=by
 cases A with
 | none=>exact .sl0 _ _
 | some a =>
  refine .sl _ _ ⟨⟨i,_,hi,rfl,rfl,rfl⟩,?_,(hat a rfl).1⟩;have hlt:=(List.getElem?_eq_some_iff.1 hi).1;show a.off=0+(if Tryz.prog.globals.size≤Tryz.prog.globals.size+i∧Tryz.prog.globals.size+i<Tryz.prog.globals.size+ws.length then ((ws[Tryz.prog.globals.size+i - Tryz.prog.globals.size]?).map (·.off)).getD 0 else 0)
  rw [if_pos ⟨by omega,by omega⟩,Nat.add_sub_cancel_left,hi];simp [winOf]
theorem stays_below {v w:World} (h:Stays (fun b=>b<v.heap.size) v w):Go.RowKit.Below v.heap.size v w:=⟨h.os,h.tape,h.output,h.size,fun k hk=>h.block k hk hk⟩
end
end Rn
namespace X
open Go.RowKit
def ribB (L M:List (Nat × List Int)) (i:Nat):Bool:=loadsB (rowZ L i) (rowN L i) (rowZ M i) (rowN M i)
def vaultB (L:List (Nat × List Int)) (n:Nat) (M:List (Nat × List Int)) (q:Nat):Bool:=inB (n:Int) 1 5 && (decide (q=n) && allB (ribB L M) n)
theorem vaultB_1 (L M:List (Nat × List Int)) {n:Nat} (q:Nat) (h:inB (n:Int) 1 5=false):vaultB L n M q=false:=by simp [vaultB,h]
theorem vaultB_2 (L M:List (Nat × List Int)) {n q:Nat} (h:¬ q=n):vaultB L n M q=false:=by simp [vaultB,h]
theorem vaultB_3 {L M:List (Nat × List Int)} {n:Nat} (q:Nat) {k:Nat} (hk:k<n) (h:ribB L M k=false):vaultB L n M q=false:=by simp [vaultB,allB_f hk h]
theorem vaultB_t {L M:List (Nat × List Int)} {n q:Nat} (h1:inB (n:Int) 1 5=true) (h2:q=n) (h:allTo (ribB L M) n):vaultB L n M q=true:=by simp [vaultB,allB_t h,h1,h2]
theorem vaultB_out {L M:List (Nat × List Int)} {n q:Nat} (h:vaultB L n M q=true):(1≤n∧n≤5)∧q=n∧allTo (ribB L M) n:=by
 simp only [vaultB,Bool.and_eq_true,decide_eq_true_eq,inB_iff] at h;exact ⟨by omega,h.2.1,allB_out h.2.2⟩
theorem cell_newA (w:World) (u v:Value) (t:TypeId):(w.alloc (.cells #[u,v] t)).cell? ⟨w.heap.size,0,none⟩=some u:=World.rowIs.cell (World.rowIs_alloc w #[u,v] t (fun i=>if i=0 then u else v) (fun i hi=>by simp at hi; match i,hi with | 0,_=>rfl | 1,_=>rfl)) (by simp)
theorem cell_newB (w:World) (u v:Value) (t:TypeId):(w.alloc (.cells #[u,v] t)).cell? ⟨w.heap.size,1,none⟩=some v:=World.rowIs.cell (World.rowIs_alloc w #[u,v] t (fun i=>if i=0 then u else v) (fun i hi=>by simp at hi; match i,hi with | 0,_=>rfl | 1,_=>rfl)) (by simp)
set_option maxRecDepth 100000 in
set_option maxHeartbeats 1600000 in
theorem sVaultOk_any (A:Option Addr) (n c:Nat) (L:List (Nat × List Int)) (B:Option Addr) (q d:Nat) (M:List (Nat × List Int)) (w:World) (h:NestAt w w.heap.size 4 A n L) (hn:n≤1048576) (hr:∀ i,i<n→rowN L i≤1048576) (hl:NestAt w w.heap.size 3 B q M) (hq:q≤1048576) (hs:∀ i,i<q→rowN M i≤1048576) :
  Calls Tryzx.prog 30 #[.agg #[.slice A n c,.slice B q d]] w fun e w'=>e = .returned (.bool (vaultB L n M q))∧Below w.heap.size w w':=by
 have HA:=Lib.hid ((Below.refl w.heap.size w).alloc (Nat.le_refl _) (.cells #[.slice A n c,.slice B q d] 31));have H:=Lib.hid h;have HL:=Lib.hid hl;have HR:=Lib.hid hr;have HS:=Lib.hid hs;clear h hl hr hs;cases hB:inB (n:Int) 1 5
 ·have HF:=Lib.hid (vaultB_1 L M q hB)
  go_enter Tryzx.func30,Tryz.ntmps30;go_wp2_with (go_at_call 52; refine (l01In_any _ _ _ _).mono ?_; rw [hB]; rintro e w' ⟨rfl,rfl⟩);go_ret;exact ⟨ret_bool HF.out.symm,HA.out⟩
 by_cases hqn:q=n
 ·subst hqn
  have hd:((q:Int) != (q:Int))=false:=by simp
  have HT:=Lib.hid (fun h3=>vaultB_t (L:=L) (M:=M) hB (rfl:q=q) h3);go_enter Tryzx.func30,Tryz.ntmps30;go_wp2_with (go_at_call 52; refine (l01In_any _ _ _ _).mono ?_; rw [hB]; rintro e w' ⟨rfl,rfl⟩);go_loopw [3] (fun i wr=>∃ k:Nat,k≤q∧i = .int .i64 k∧allTo (ribB L M) k∧wr.cell? ⟨w.heap.size,0,none⟩=some (.slice A q c)∧wr.cell? ⟨w.heap.size,1,none⟩=some (.slice B q d)∧Below w.heap.size w wr) (fun i _=>q - (intOf i).toNat)
  case atStart=>exact ⟨0,Nat.zero_le _,rfl,allTo_0 _,cell_newA _ _ _ _,cell_newB _ _ _ _,HA.out⟩
  case round =>
   clear HA hB;obtain ⟨k,hk,rfl,hag,hbox,hbox',hb⟩:=hrel;have HB:=Lib.hid hb;have hgl:=World.block_lt_of_cell? wr _ hbox;simp only at hgl;by_cases hlt:k<q
   ·obtain ⟨b,off,rfl,hbB,hc⟩:=H.out.2 (by omega)
    obtain ⟨b',off',rfl,hbB',hc'⟩:=HL.out.2 (by omega);obtain ⟨Ak,ck,hx,hrec,_,_⟩:=hc k hlt;obtain ⟨Bk,dk,hy,hrec',_,_⟩:=hc' k hlt;have x0:wr.cell? ⟨b,off+k,none⟩=some (.slice Ak (rowN L k) ck):=(hb.cell (by exact hbB)).trans hx;have y0:wr.cell? ⟨b',off'+k,none⟩=some (.slice Bk (rowN M k) dk):=(hb.cell (by exact hbB')).trans hy;have r1:=(hrec.below hb).mono hb.size;have r2:=(hrec'.below hb).mono hb.size;have hrk:=HR.out k hlt;have hsk:=HS.out k hlt;have hz:=hb.size;have ki:(k:Int)<(q:Int):=by omega
    have k0:(0:Int)≤(k:Int):=by omega
    clear hc hc' hb hx hy hrec hrec';cases hp:ribB L M k;all_goals
     have hp':=hp;unfold ribB at hp';go_wp2;go_region_held3 (fun w'=>w'.cell? ⟨w.heap.size,0,none⟩=some (.slice (some ⟨b,off,none⟩) q c)∧w'.cell? ⟨w.heap.size,1,none⟩=some (.slice (some ⟨b',off',none⟩) q d)∧w'.cell? ⟨b,off+k,none⟩=some (.slice Ak (rowN L k) ck)∧w'.cell? ⟨b',off'+k,none⟩=some (.slice Bk (rowN M k) dk)) (first | exact ⟨hbox,hbox',x0,y0⟩ | (refine ⟨?_,?_,?_,?_⟩ <;> (rw [hcc _ _ (by simp <;> omega)]; assumption))) ((go_at_call 53; refine (sLoadsOk_any _ _ _ (rowZ L k) _ _ _ (rowZ M k) _ (by exact r1) hrk (by exact r2) hsk).mono ?_; rw [hp']; rintro e w1 ⟨rfl,hb1⟩; obtain ⟨hcc,hff⟩:=bcell hb1));have HB1:=Lib.hid (HB.out.drew.trans (hb1.mono (by simp; omega)))
     have hbx1:=(hb1.cell (p:=⟨w.heap.size,0,none⟩) (by simp; omega)).trans hbox
     have hbx2:=(hb1.cell (p:=⟨w.heap.size,1,none⟩) (by simp; omega)).trans hbox'
     clear hcc hff hb1 hp'
    ·have HF:=Lib.hid (vaultB_3 q hlt hp)
     go_wp2;go_ret;exact ⟨ret_bool HF.out.symm,HB1.out⟩
    ·have HST:=Lib.hid (allTo_step hag hp)
     clear hag;go_wp2;go_roundw
     case rel=>exact ⟨k+1,by omega,by go_num,HST.out,hbx1,hbx2,HB1.out⟩
     case measure=>first | (simp [intOf]; done) | (simp [intOf]; omega)
   ·obtain rfl:k=q:=by omega
    have HF:=Lib.hid (HT.out hag);clear hb hag;go_wp2;go_ret;exact ⟨ret_bool HF.out.symm,HB.out⟩
 ·have HF:=Lib.hid (vaultB_2 L M hqn)
  have hd:((q:Int) != (n:Int))=true:=by simp; omega
  clear hqn;go_enter Tryzx.func30,Tryz.ntmps30;go_wp2_with (go_at_call 52; refine (l01In_any _ _ _ _).mono ?_; rw [hB]; rintro e w' ⟨rfl,rfl⟩);go_ret;exact ⟨ret_bool HF.out.symm,HA.out⟩
set_option maxRecDepth 100000 in
set_option maxHeartbeats 1600000 in
theorem iVaultOk_any (A:Option Addr) (n c:Nat) (L:List (Nat × List Int)) (B:Option Addr) (q d:Nat) (M:List (Nat × List Int)) (w:World) (h:NestAt w w.heap.size 4 A n L) (hn:n≤1048576) (hr:∀ i,i<n→rowN L i≤1048576) (hl:NestAt w w.heap.size 3 B q M) (hq:q≤1048576) (hs:∀ i,i<q→rowN M i≤1048576) :
  Calls Tryzx.prog 20 #[.agg #[.slice A n c,.slice B q d]] w fun e w'=>e = .returned (.bool (vaultB L n M q))∧Below w.heap.size w w':=by
 have HA:=Lib.hid ((Below.refl w.heap.size w).alloc (Nat.le_refl _) (.cells #[.slice A n c,.slice B q d] 31));have H:=Lib.hid h;have HL:=Lib.hid hl;have HR:=Lib.hid hr;have HS:=Lib.hid hs;clear h hl hr hs;cases hB:inB (n:Int) 1 5
 ·have HF:=Lib.hid (vaultB_1 L M q hB)
  go_enter Tryzx.func20,Tryz.ntmps20;go_wp2_with (go_at_call 43; refine (within_any _ _ _ _).mono ?_; rw [hB]; rintro e w' ⟨rfl,rfl⟩);go_ret;exact ⟨ret_bool HF.out.symm,HA.out⟩
 by_cases hqn:q=n
 ·subst hqn
  have hd:((q:Int) != (q:Int))=false:=by simp
  have HT:=Lib.hid (fun h3=>vaultB_t (L:=L) (M:=M) hB (rfl:q=q) h3);go_enter Tryzx.func20,Tryz.ntmps20;go_wp2_with (go_at_call 43; refine (within_any _ _ _ _).mono ?_; rw [hB]; rintro e w' ⟨rfl,rfl⟩);go_loopw [22] (fun i wr=>∃ k:Nat,k≤q∧i = .int .i64 k∧allTo (ribB L M) k∧wr.cell? ⟨w.heap.size,0,none⟩=some (.slice A q c)∧wr.cell? ⟨w.heap.size,1,none⟩=some (.slice B q d)∧Below w.heap.size w wr) (fun i _=>q - (intOf i).toNat)
  case atStart=>exact ⟨0,Nat.zero_le _,rfl,allTo_0 _,cell_newA _ _ _ _,cell_newB _ _ _ _,HA.out⟩
  case round =>
   clear HA hB;obtain ⟨k,hk,rfl,hag,hbox,hbox',hb⟩:=hrel;have HB:=Lib.hid hb;have hgl:=World.block_lt_of_cell? wr _ hbox;simp only at hgl;by_cases hlt:k<q
   ·obtain ⟨b,off,rfl,hbB,hc⟩:=H.out.2 (by omega)
    obtain ⟨b',off',rfl,hbB',hc'⟩:=HL.out.2 (by omega);obtain ⟨Ak,ck,hx,hrec,_,_⟩:=hc k hlt;obtain ⟨Bk,dk,hy,hrec',_,_⟩:=hc' k hlt;have x0:wr.cell? ⟨b,off+k,none⟩=some (.slice Ak (rowN L k) ck):=(hb.cell (by exact hbB)).trans hx;have hz:=hb.size;have y0:(wr.alloc (.cells #[.slice Ak (rowN L k) ck] 45)).cell? ⟨b',off'+k,none⟩=some (.slice Bk (rowN M k) dk):=(World.cell?_alloc_lt _ _ _ (by simp; omega)).trans ((hb.cell (by exact hbB')).trans hy)
    have v0:(wr.alloc (.cells #[.slice Ak (rowN L k) ck] 45)).cell? ⟨w.heap.size,0,none⟩=some (.slice (some ⟨b,off,none⟩) q c):=(World.cell?_alloc_lt _ _ _ (by simp; omega)).trans hbox
    have v1:(wr.alloc (.cells #[.slice Ak (rowN L k) ck] 45)).cell? ⟨w.heap.size,1,none⟩=some (.slice (some ⟨b',off',none⟩) q d):=(World.cell?_alloc_lt _ _ _ (by simp; omega)).trans hbox'
    have v2:(wr.alloc (.cells #[.slice Ak (rowN L k) ck] 45)).cell? ⟨wr.heap.size,0,none⟩=some (.slice Ak (rowN L k) ck):=cell_new0 _ _ _;have r1:=(((hrec.below hb).mono hb.size).alloc (Nat.le_refl _) (.cells #[.slice Ak (rowN L k) ck] 45)).mono (B':=(wr.alloc (.cells #[.slice Ak (rowN L k) ck] 45)).heap.size) (by simp);have r2:=(((hrec'.below hb).mono hb.size).alloc (Nat.le_refl _) (.cells #[.slice Ak (rowN L k) ck] 45)).mono (B':=(wr.alloc (.cells #[.slice Ak (rowN L k) ck] 45)).heap.size) (by simp);have HB0:=Lib.hid (hb.alloc hz (.cells #[.slice Ak (rowN L k) ck] 45));have hrk:=HR.out k hlt;have hsk:=HS.out k hlt;have ki:(k:Int)<(q:Int):=by omega
    have k0:(0:Int)≤(k:Int):=by omega
    clear hc hc' hb hx hy hrec hrec';cases hp:ribB L M k;all_goals
     have hp':=hp;unfold ribB at hp';go_wp2;go_region_held3 (fun w'=>w'.cell? ⟨wr.heap.size,0,none⟩=some (.slice Ak (rowN L k) ck)∧w'.cell? ⟨w.heap.size,1,none⟩=some (.slice (some ⟨b',off',none⟩) q d)∧w'.cell? ⟨b',off'+k,none⟩=some (.slice Bk (rowN M k) dk)) (first | exact ⟨v2,v1,y0⟩ | (refine ⟨?_,?_,?_⟩ <;> (rw [hcc _ _ (by simp <;> omega)]; assumption))) ((go_at_call 45; refine (iLoadsOk_any _ _ _ (rowZ L k) _ _ _ (rowZ M k) _ (by exact r1) hrk (by exact r2) hsk).mono ?_; rw [hp']; rintro e w1 ⟨rfl,hb1⟩; obtain ⟨hcc,hff⟩:=bcell hb1));have HB1:=Lib.hid (HB0.out.drew.trans (hb1.mono (by simp; omega)))
     have hbx1:=(hb1.cell (p:=⟨w.heap.size,0,none⟩) (by simp; omega)).trans v0
     have hbx2:=(hb1.cell (p:=⟨w.heap.size,1,none⟩) (by simp; omega)).trans v1
     clear hcc hff hb1 hp'
    ·have HF:=Lib.hid (vaultB_3 q hlt hp)
     go_wp2;go_ret;exact ⟨ret_bool HF.out.symm,HB1.out⟩
    ·have HST:=Lib.hid (allTo_step hag hp)
     clear hag;go_wp2;go_roundw
     case rel=>exact ⟨k+1,by omega,by go_num,HST.out,hbx1,hbx2,HB1.out⟩
     case measure=>first | (simp [intOf]; done) | (simp [intOf]; omega)
   ·obtain rfl:k=q:=by omega
    have HF:=Lib.hid (HT.out hag);clear hb hag;go_wp2;go_ret;exact ⟨ret_bool HF.out.symm,HB.out⟩
 ·have HF:=Lib.hid (vaultB_2 L M hqn)
  have hd:((q:Int) != (n:Int))=true:=by simp; omega
  clear hqn;go_enter Tryzx.func20,Tryz.ntmps20;go_wp2_with (go_at_call 43; refine (within_any _ _ _ _).mono ?_; rw [hB]; rintro e w' ⟨rfl,rfl⟩);go_ret;exact ⟨ret_bool HF.out.symm,HA.out⟩
end X
section
open Go.RowKit
theorem OwnR.weaken {w:World} {base base':Nat} {E:TypeId} {K n:Nat} {v:Value} {xs:List Int} (h:OwnR w base E K v n xs) (hb:base'≤base):OwnR w base' E K v n xs:=by
 refine ⟨⟨h.1.1,?_⟩,h.2⟩;rcases h.1.2 with h2 | ⟨g,cap,cur,h1,h2,h3⟩
 ·exact .inl h2
 ·exact .inr ⟨g,cap,cur,h1,Nat.le_trans hb h2,h3⟩
theorem OwnR.set2 {w:World} {base:Nat} {E:TypeId} {K n:Nat} {v:Value} {xs:List Int} (h:OwnR w base E K v n xs) (p q:Addr) (x y:Value) (hp:p.block<base) (hq:q.block<base):OwnR ((w.setCell p x).setCell q y) base E K v n xs:=by
 refine ⟨⟨h.1.1,?_⟩,h.2⟩;rcases h.1.2 with h2 | ⟨g,cap,cur,h1,h2,h3,hr⟩
 ·exact .inl h2
 ·refine .inr ⟨g,cap,cur,h1,h2,?_,hr⟩
  rw [Below.heap_setCell _ q y g (by omega),Below.heap_setCell _ p x g (by omega)];exact h3
theorem OwnR.ints {w:World} {base:Nat} {E:TypeId} {A:Option Addr} {n c:Nat} {xs:List Int} (h:OwnR w base E 1 (.slice A n c) n xs):IntsAt w w.heap.size A n xs:=by
 have hr:=h.recs;refine ⟨by rw [hr.1,Nat.mul_one],fun hn => ?_⟩;obtain ⟨b,off,e,hb,hc⟩:=hr.2 hn;exact ⟨b,off,e,hb,fun k hk=>hc k (by omega)⟩
theorem OwnR.rowInts {w:World} {base:Nat} {E:TypeId} {A:Option Addr} {n c:Nat} {xs:List Int} (h:OwnR w base E 1 (.slice A n c) n xs) (hn:0<n):∃ g,A=some ⟨g,0,none⟩∧base≤g∧RowF w g E n (Go.Proofs.YtjcgklifabcfkaaGreat.ints xs):=by
 rcases h.form with ⟨_,h2,_⟩ | ⟨g,cap,e,h2,_,hr⟩
 ·omega
 ·simp at e
  rw [Nat.mul_one] at hr;exact ⟨g,e.1,h2,hr⟩
end
namespace X
open Go.RowKit
theorem infoRow:(Tryzx.prog.info? 133).map (fun i=>(i.zero,i.size,i.bytes))=some (some (.agg #[.int .i64 0,.int .i64 0,.int .i64 0,.int .i64 0]),4,32):=by kernel_rfl
def RowsPost (w:World) (m:Nat) (L:List Int) (e:Ending) (w':World):Prop :=
 ∃ v,e = .returned v∧OwnR w' w.heap.size 133 4 v m L∧Below w.heap.size w w'
def RowsPostN (w:World) (m:Nat) (L:List Int) (e:Ending) (w':World):Prop:=RowsPost w m L e w'∧(m=0→e = .returned (.slice none 0 0))
theorem sum_past {xs:List Int} {k:Nat} (hl:xs.length=k*2):sumW xs (k+1)=sumW xs k∧sumM xs (k+1)=sumM xs k:=by
 have h1:nth xs (k*2)=0:=by simp [nth,List.getD,List.getElem?_eq_none (show xs.length≤k*2 by omega)]
 have h2:nth xs (k*2+1)=0:=by simp [nth,List.getD,List.getElem?_eq_none (show xs.length≤k*2+1 by omega)]
 exact ⟨by simp [sumW,h1],by simp [sumM,h2]⟩
structure RFor (w wr:World) (va:Value) (zs xs:List Int) (k:Nat) (v5:Value):Prop where
 arch:RowF wr w.heap.size 45 1 (fun _=>va)
 left:RowF wr (w.heap.size+1) 139 2 (ints [sumW xs k,sumM xs k])
 own:OwnR wr (w.heap.size+2) 133 4 v5 (k*2) (rowTo zs (sumW xs) (sumM xs) k)
 below:Below w.heap.size w wr
theorem rfor_start (w:World) (va:Value) (zs xs:List Int):RFor w ((w.alloc (.cells #[va] 45)).alloc (.cells #[.int .i64 0,.int .i64 0] 139)) va zs xs 0 (.slice none 0 0):=by
 refine ⟨(RowF.of_row (World.rowIs_alloc w #[va] _ (fun _=>va) (fun i hi=>by simp at hi; subst hi; rfl))).alloc _,?_,OwnR.nil _ _ _ _,((Below.refl _ _).alloc (Nat.le_refl _) _).alloc (by simp) _⟩
 have h:=RowF.of_row (World.rowIs_alloc (w.alloc (.cells #[va] 45)) #[.int .i64 0,.int .i64 0] 139 (ints [0,0]) (fun i hi=>by simp at hi; match i,hi with | 0,_=>rfl | 1,_=>rfl))
 rw [World.size_alloc] at h;exact h
theorem RFor.drew {w wr:World} {va:Value} {zs xs:List Int} {k:Nat} {v5:Value} (h:RFor w wr va zs xs k v5):RFor w wr.drew va zs xs k v5:=⟨h.arch.drew,h.left.drew,h.own.drew,h.below.drew⟩
theorem rowC_new4 (w:World) (a b c d:Int) (T:TypeId):RowF (w.alloc (.cells #[.int .i64 a,.int .i64 b,.int .i64 c,.int .i64 d] T)) w.heap.size T 4 (ints [a,b,c,d]) :=
 RowF.of_row (World.rowIs_alloc w #[.int .i64 a,.int .i64 b,.int .i64 c,.int .i64 d] T _ (fun j hj=>by simp at hj; match j,hj with | 0,_=>rfl | 1,_=>rfl | 2,_=>rfl | 3,_=>rfl))
theorem rowC_new8 (w:World) (a b c d e f g h:Int) (T:TypeId):RowF (w.alloc (.cells #[.int .i64 a,.int .i64 b,.int .i64 c,.int .i64 d,.int .i64 e,.int .i64 f,.int .i64 g,.int .i64 h] T)) w.heap.size T 8 (ints [a,b,c,d,e,f,g,h]) :=
 RowF.of_row (World.rowIs_alloc w #[.int .i64 a,.int .i64 b,.int .i64 c,.int .i64 d,.int .i64 e,.int .i64 f,.int .i64 g,.int .i64 h] T _ (fun j hj=>by simp at hj; match j,hj with | 0,_=>rfl | 1,_=>rfl | 2,_=>rfl | 3,_=>rfl | 4,_=>rfl | 5,_=>rfl | 6,_=>rfl | 7,_=>rfl))
theorem jWraps {ix iy ox oy w m:Int} (h:JBd ix iy ox oy w m):IntKind.i64.wrap (-ix) = -ix∧IntKind.i64.wrap (-oy) = -oy∧IntKind.i64.wrap (ix*w)=ix*w∧IntKind.i64.wrap (m - ix*w)=m - ix*w∧IntKind.i64.wrap (ox*w)=ox*w∧IntKind.i64.wrap (ox*w - m)=ox*w - m:=by
 obtain ⟨h1,h2,h3,h4,h5,h6⟩:=h;exact ⟨IntWalk.i64_in _ (by omega),IntWalk.i64_in _ (by omega),IntWalk.i64_in _ (by omega),IntWalk.i64_in _ (by omega),IntWalk.i64_in _ (by omega),IntWalk.i64_in _ (by omega)⟩
set_option maxRecDepth 100000 in
set_option maxHeartbeats 3200000 in
theorem rowsFor_any (A:Option Addr) (n c:Nat) (zs:List Int) (B:Option Addr) (d:Nat) (xs:List Int) (w:World) (h:RecsAt w w.heap.size 4 A n zs) (hs:RecsAt w w.heap.size 2 B (n - 1) xs) (hA:archB zs n=true) (hb:WMok (sumW xs) (sumM xs) n) :
  Calls Tryzx.prog 111 #[.agg #[.slice A n c],.slice B (n - 1) d] w (RowsPost w (n*2+1) (rowsL zs (sumW xs) (sumM xs) n)):=by
 have hn8:=(archB_out hA).1;obtain ⟨m,rfl⟩:∃ m,n=m+1:=⟨n - 1,by omega⟩;rw [Nat.add_sub_cancel] at hs ⊢;obtain ⟨b,off,rfl,hbB,hcell⟩:=h.2 (by omega);obtain ⟨bs,offs,rfl,hbS,hcs⟩:=hs.2 (by omega);have HC:=Lib.hid (fun j (hj:j<m+1)=>jtCells hcell hj);have HCS:=Lib.hid hcs;have HPAST:=Lib.hid (sum_past hs.1);have HB:=Lib.hid hb;have HJB:=Lib.hid (fun k (hk:k<m+1)=>jBd_of hA hb hk);have HOK:=Lib.hid (allB_t (rowsL_ok hA hb));have ST:=Lib.hid (rfor_start w (.slice (some ⟨b,off,none⟩) (m+1) c) zs xs);have hz0:((w.alloc (.cells #[.slice (some ⟨b,off,none⟩) (m+1) c] 45)).alloc (.cells #[.int .i64 0,.int .i64 0] 139)).heap.size=w.heap.size+1+1:=by simp
 clear hcell hcs h hs hA hb;go_enter Tryzx.func111,Tryz.ntmps111;go_wp2;go_loopw [5,12] (fun v5 v12 wr=>∃ (k:Nat),k≤m+1∧v12 = .int .i64 k∧Hid (RFor w wr (.slice (some ⟨b,off,none⟩) (m+1) c) zs xs k v5)) (fun _ v12 _=>m+1 - (intOf v12).toNat)
 case atStart=>exact ⟨0,Nat.zero_le _,rfl,ST⟩
 case round =>
  clear ST;obtain ⟨k,hk,rfl,HR⟩:=hrel;have hz:=HR.out.below.size;have hll:=HR.out.left.lt;by_cases hlt:k<m+1
  ·have ki:(k:Int)<((m+1:Nat):Int):=by omega
   have k0:(0:Int)≤(k:Int):=by omega
   have a0:wr.cell? ⟨w.heap.size,0,none⟩=some (.slice (some ⟨b,off,none⟩) (m+1) c):=HR.out.arch.cell (by omega);have hq:=HC.out k hlt;have x0:wr.cell? ⟨b,off+k*4,none⟩=some (.int .i64 (nth zs (k*4))):=(HR.out.below.cell (by exact hbB)).trans hq.1;have x1:wr.cell? ⟨b,off+k*4+1,none⟩=some (.int .i64 (nth zs (k*4+1))):=(HR.out.below.cell (by exact hbB)).trans hq.2.1;have x2:wr.cell? ⟨b,off+k*4+2,none⟩=some (.int .i64 (nth zs (k*4+2))):=(HR.out.below.cell (by exact hbB)).trans hq.2.2.1;have x3:wr.cell? ⟨b,off+k*4+3,none⟩=some (.int .i64 (nth zs (k*4+3))):=(HR.out.below.cell (by exact hbB)).trans hq.2.2.2;have HX:Hid (rowTo zs (sumW xs) (sumM xs) k ++ [nth zs (k*4+1),-nth zs (k*4),1,sumM xs k - nth zs (k*4)*sumW xs k,-nth zs (k*4+3),nth zs (k*4+2),-1,nth zs (k*4+2)*sumW xs k - sumM xs k]=rowTo zs (sumW xs) (sumM xs) (k+1)):=rfl;obtain ⟨e1,e2,e3,e4,e5,e6⟩:=jWraps (HJB.out k hlt);have HSW:Hid (∀ a b,sumW xs k=a→sumM xs k=b→sumW xs (k+1)=a+nth xs (k*2)∧sumM xs (k+1)=b+nth xs (k*2+1)):=fun a b h1 h2=>by subst h1; subst h2; exact ⟨rfl,rfl⟩
   have HL:=Lib.hid HR.out.left;have HO:=Lib.hid HR.out.own;have HAr:=Lib.hid HR.out.arch;have HBl:=Lib.hid HR.out.below;clear hq HR;generalize hWk:sumW xs k=lw at *
   generalize hMk:sumM xs k=lm at *
   have HWM:=Lib.hid (HSW.out _ _ rfl rfl);have HWk:=Lib.hid hWk;have HMk:=Lib.hid hMk;clear HSW hWk hMk;generalize nth zs (k*4)=ix at *
   generalize nth zs (k*4+1)=iy at *
   generalize nth zs (k*4+2)=ox at *
   generalize nth zs (k*4+3)=oy at *
   obtain ⟨⟨z0,z1,z2,z3⟩,_⟩:=Box4.new wr ix iy ox oy 110;have hla:=HL.out.alloc (.cells #[.int .i64 ix,.int .i64 iy,.int .i64 ox,.int .i64 oy] 110);have l0:(wr.alloc (.cells #[.int .i64 ix,.int .i64 iy,.int .i64 ox,.int .i64 oy] 110)).cell? ⟨w.heap.size+1,0,none⟩=some (.int .i64 lw):=hla.cell (by omega);have l1:(wr.alloc (.cells #[.int .i64 ix,.int .i64 iy,.int .i64 ox,.int .i64 oy] 110)).cell? ⟨w.heap.size+1,1,none⟩=some (.int .i64 lm):=hla.cell (by omega);clear hla;have HBA:=Lib.hid (((Below.refl (w.heap.size+2) wr).alloc (by omega) (.cells #[.int .i64 ix,.int .i64 iy,.int .i64 ox,.int .i64 oy] 110)).alloc (by simp; omega) (.cells #[.int .i64 iy,.int .i64 (-ix),.int .i64 1,.int .i64 (lm - ix*lw),.int .i64 (-oy),.int .i64 ox,.int .i64 (-1),.int .i64 (ox*lw - lm)] 133))
   have HOA:=Lib.hid ((HO.out.alloc (.cells #[.int .i64 ix,.int .i64 iy,.int .i64 ox,.int .i64 oy] 110)).alloc (.cells #[.int .i64 iy,.int .i64 (-ix),.int .i64 1,.int .i64 (lm - ix*lw),.int .i64 (-oy),.int .i64 ox,.int .i64 (-1),.int .i64 (ox*lw - lm)] 133));have HCN:Hid (∀ i,i<2*4→((wr.alloc (.cells #[.int .i64 ix,.int .i64 iy,.int .i64 ox,.int .i64 oy] 110)).alloc (.cells #[.int .i64 iy,.int .i64 (-ix),.int .i64 1,.int .i64 (lm - ix*lw),.int .i64 (-oy),.int .i64 ox,.int .i64 (-1),.int .i64 (ox*lw - lm)] 133)).cell? ⟨wr.heap.size+1,i,none⟩=some (.int .i64 (nth [iy,-ix,1,lm - ix*lw,-oy,ox,-1,ox*lw - lm] i))):=by
    intro i hi;have h:=rowC_new8 (wr.alloc (.cells #[.int .i64 ix,.int .i64 iy,.int .i64 ox,.int .i64 oy] 110)) iy (-ix) 1 (lm - ix*lw) (-oy) ox (-1) (ox*lw - lm) 133;rw [World.size_alloc] at h;exact h.cell hi
   have hW0:w.heap.size+2≤((wr.alloc (.cells #[.int .i64 ix,.int .i64 iy,.int .i64 ox,.int .i64 oy] 110)).alloc (.cells #[.int .i64 iy,.int .i64 (-ix),.int .i64 1,.int .i64 (lm - ix*lw),.int .i64 (-oy),.int .i64 ox,.int .i64 (-1),.int .i64 (ox*lw - lm)] 133)).heap.size:=by simp; omega
   by_cases hkm:k<m
   ·have hkm':(k:Int)<(m:Int):=by omega
    go_wp2_with (at_builtin; refine wpList_appR _ rfl (.tmp 17) (.tmp 52) 103 rfl (w.heap.size+2) 133 4 32 #[.int .i64 0,.int .i64 0,.int .i64 0,.int .i64 0] Tryzx.underlying103 infoRow rfl (by decide) (by decide) _ (k*2) _ rfl (by exact HOA.out) (wr.heap.size+1) 2 2 [iy,-ix,1,lm - ix*lw,-oy,ox,-1,ox*lw - lm] rfl rfl (by exact HCN.out) (by omega) (w.heap.size+2) wr (by exact HBA.out) (Nat.le_refl _) hW0 _ HX.out ?_ (by omega); intro g' cap' w3 hown3 hb3);have HAr3:=Lib.hid (HAr.out.below hb3 (by omega));have hl3:=HL.out.below hb3 (by omega);have HL3:=Lib.hid hl3;have HBl3:=Lib.hid (HBl.out.trans (hb3.mono (by omega)));have HO3:=Lib.hid (show OwnR w3 (w.heap.size+2) 133 4 (.slice (some ⟨g',0,none⟩) (k*2+2) cap') ((k+1)*2) (rowTo zs (sumW xs) (sumM xs) (k+1)) by rw [show (k+1)*2=k*2+2 by omega]; exact hown3);have hz3:wr.heap.size≤w3.heap.size:=hb3.size;clear x0 x1 x2 x3 z0 z1 z2 z3 l0 l1 a0 hown3 e1 e2 e3 e4 e5 e6;have hc1:=HCS.out (k*2) (by omega);have hc2:=HCS.out (k*2+1) (by omega);have s0:w3.cell? ⟨bs,offs+k*2,none⟩=some (.int .i64 (nth xs (k*2))):=(HBl3.out.cell (by exact hbS)).trans hc1;have s1:w3.cell? ⟨bs,offs+k*2+1,none⟩=some (.int .i64 (nth xs (k*2+1))):=(HBl3.out.cell (by exact hbS)).trans hc2;have l0:w3.cell? ⟨w.heap.size+1,0,none⟩=some (.int .i64 lw):=hl3.cell (by omega);have l1:w3.cell? ⟨w.heap.size+1,1,none⟩=some (.int .i64 lm):=hl3.cell (by omega);have f0:=hl3.frozen 0;have f1:=hl3.frozen 1;have hbd:=HB.out (k+1) (by omega);rw [HWM.out.1,HWM.out.2] at hbd;have ne1:¬ bs=w.heap.size+1:=by omega
    have es1:IntKind.i64.wrap (lw+nth xs (k*2))=lw+nth xs (k*2):=IntWalk.i64_in _ (by omega);have es2:IntKind.i64.wrap (lm+nth xs (k*2+1))=lm+nth xs (k*2+1):=IntWalk.i64_in _ (by omega);generalize nth xs (k*2)=sw at *
    generalize nth xs (k*2+1)=sm at *
    clear hl3 hc1 hc2 hb3;have hlA:=HL3.out.set 0 (.int .i64 (lw+sw));have l1':(w3.setCell ⟨w.heap.size+1,0,none⟩ (.int .i64 (lw+sw))).cell? ⟨w.heap.size+1,1,none⟩=some (.int .i64 lm):=by
     have h:=hlA.cell (i:=1) (by omega);exact h
    have s1':(w3.setCell ⟨w.heap.size+1,0,none⟩ (.int .i64 (lw+sw))).cell? ⟨bs,offs+k*2+1,none⟩=some (.int .i64 sm):=(World.cell?_setCell_far _ _ _ _ (by simp; omega)).trans s1
    have f1':(w3.setCell ⟨w.heap.size+1,0,none⟩ (.int .i64 (lw+sw))).frozen? ⟨w.heap.size+1,1,none⟩=false:=hlA.frozen 1;have HF:Hid (RFor w ((w3.setCell ⟨w.heap.size+1,0,none⟩ (.int .i64 (lw+sw))).drew.setCell ⟨w.heap.size+1,1,none⟩ (.int .i64 (lm+sm))) (.slice (some ⟨b,off,none⟩) (m+1) c) zs xs (k+1) (.slice (some ⟨g',0,none⟩) (k*2+2) cap')):=by
     have hcg:Below (w.heap.size+2) w3 w3:=Below.refl _ _;refine ⟨(HAr3.out.set_other (by simp) _).set_other (by simp) _,?_,?_,(HBl3.out.setCell (by simp) _).drew.setCell (by simp) _⟩
     ·rw [HWM.out.1,HWM.out.2]
      exact (hlA.set 1 (.int .i64 (lm+sm))).congr (fun i hi=>by match i,hi with | 0,_=>rfl | 1,_=>rfl)
     ·exact HO3.out.set2 _ _ _ _ (by simp) (by simp)
    clear hlA;go_wp2;go_region_law (fail)
    all_goals
     go_wp2;generalize hWZ:(w3.setCell ⟨w.heap.size+1,0,none⟩ (.int .i64 (lw+sw)))=wz at *
     go_region_law (fail)
     all_goals
      go_wp2;go_roundw
      case rel=>exact ⟨k+1,by omega,by go_num,Lib.hid HF.out.drew⟩
      case measure=>simp [intOf]; omega
   ·obtain rfl:k=m:=by omega
    go_wp2_with (at_builtin; refine wpList_appR _ rfl (.tmp 17) (.tmp 52) 103 rfl (w.heap.size+2) 133 4 32 #[.int .i64 0,.int .i64 0,.int .i64 0,.int .i64 0] Tryzx.underlying103 infoRow rfl (by decide) (by decide) _ (k*2) _ rfl (by exact HOA.out) (wr.heap.size+1) 2 2 [iy,-ix,1,lm - ix*lw,-oy,ox,-1,ox*lw - lm] rfl rfl (by exact HCN.out) (by omega) (w.heap.size+2) wr (by exact HBA.out) (Nat.le_refl _) hW0 _ HX.out ?_ (by omega); intro g' cap' w3 hown3 hb3);have HAr3:=Lib.hid (HAr.out.below hb3 (by omega));have hl3:=HL.out.below hb3 (by omega);have HL3:=Lib.hid hl3;have HBl3:=Lib.hid (HBl.out.trans (hb3.mono (by omega)));have HO3:=Lib.hid (show OwnR w3 (w.heap.size+2) 133 4 (.slice (some ⟨g',0,none⟩) (k*2+2) cap') ((k+1)*2) (rowTo zs (sumW xs) (sumM xs) (k+1)) by rw [show (k+1)*2=k*2+2 by omega]; exact hown3);have hz3:wr.heap.size≤w3.heap.size:=hb3.size;clear x0 x1 x2 x3 z0 z1 z2 z3 l0 l1 a0 hown3 e1 e2 e3 e4 e5 e6;have HF:Hid (RFor w w3 (.slice (some ⟨b,off,none⟩) (k+1) c) zs xs (k+1) (.slice (some ⟨g',0,none⟩) (k*2+2) cap')) :=
     ⟨HAr3.out,by rw [HPAST.out.1,HPAST.out.2,HWk.out,HMk.out]; exact HL3.out,HO3.out,HBl3.out⟩
    clear hl3 hb3;go_wp2;go_roundw
    case rel=>exact ⟨k+1,by omega,by go_num,HF⟩
    case measure=>first | (simp [intOf]; done) | (simp [intOf]; omega)
  ·obtain rfl:k=m+1:=by omega
   have HU:Hid (rowTo zs (sumW xs) (sumM xs) (m+1) ++ [-1,0,0,0]=rowsL zs (sumW xs) (sumM xs) (m+1)):=rfl;have HO:=Lib.hid (HR.out.own.alloc (.cells #[.int .i64 (-1),.int .i64 0,.int .i64 0,.int .i64 0] 133));have HBA:=Lib.hid (HR.out.below.alloc hz (.cells #[.int .i64 (-1),.int .i64 0,.int .i64 0,.int .i64 0] 133));have HCN:Hid (∀ i,i<1*4→(wr.alloc (.cells #[.int .i64 (-1),.int .i64 0,.int .i64 0,.int .i64 0] 133)).cell? ⟨wr.heap.size,i,none⟩=some (.int .i64 (nth [-1,0,0,0] i))):=fun i hi=>(rowC_new4 wr (-1) 0 0 0 133).cell hi
   go_wp2_with (at_builtin; refine wpList_appR _ rfl (.tmp 77) (.tmp 79) 103 rfl (w.heap.size+2) 133 4 32 #[.int .i64 0,.int .i64 0,.int .i64 0,.int .i64 0] Tryzx.underlying103 infoRow rfl (by decide) (by decide) _ ((m+1)*2) _ rfl (by exact HO.out) wr.heap.size 1 1 [-1,0,0,0] rfl rfl (by exact HCN.out) (by omega) w.heap.size w (by exact HBA.out) (by omega) (by simp; omega) _ HU.out ?_ (by omega); intro g' cap' w3 hown3 hb3);have HO3:=Lib.hid hown3;have HB3:=Lib.hid hb3;clear hown3 hb3;go_wp2_with fail
   refine (rowsOk_any _ _ _ _ _ (by exact HO3.out.recs) (by omega)).mono ?_;rw [HOK.out];rintro e w4 ⟨rfl,hb4⟩;have HO4:=Lib.hid (HO3.out.below hb4);have HB4:=Lib.hid (HB3.out.trans (hb4.mono HB3.out.size));clear hb4;go_wp2;go_ret;exact ⟨_,rfl,HO4.out.weaken (by omega),HB4.out⟩
end X
namespace X
open Go.RowKit
theorem box_setS {w:World} {g:Nat} {t:TypeId} {f:Nat→Value} (v:Value) (h:RowF w g t 1 f):Box (w.setCell ⟨g,0,none⟩ v) g v :=
 ⟨by have:=(h.set 0 v).cell (i:=0) (by omega); simpa using this,by simpa using h.lt⟩
theorem rowF_new1S (w:World) (u:Value) (t:TypeId):RowF (w.alloc (.cells #[u] t)) w.heap.size t 1 (fun _=>u):=RowF.of_row (World.rowIs_alloc w #[u] t (fun _=>u) (fun i hi=>by simp at hi; subst hi; rfl))
end X
namespace X
open Go.RowKit
theorem l04Cross_any (ax ay bx b_y:Int) (w:World) (ha:ptB ax ay=true) (hb:ptB bx b_y=true) :
  Calls Tryzx.prog 116 #[.agg #[.int .i64 ax,.int .i64 ay],.agg #[.int .i64 bx,.int .i64 b_y]] w fun e w'=>e = .returned (.int .i64 (crossI ax ay bx b_y))∧Below w.heap.size w w':=by
 have hcr:=crossI_bd ha hb;unfold crossI at hcr;rw [ptB_iff] at ha hb;have hmA:=mul_bd (m:=60) (n:=60) (a:=ax) (b:=b_y) (by omega) (by omega);have hmB:=mul_bd (m:=60) (n:=60) (a:=ay) (b:=bx) (by omega) (by omega);go_enter Tryzx.func116,Tryz.ntmps116;go_wp2;go_ret;exact ⟨rfl,((Below.refl _ _).alloc (Nat.le_refl _) _).alloc (by simp) _⟩
set_option maxRecDepth 100000 in
set_option maxHeartbeats 1600000 in
theorem sAreaTwice_any (A:Option Addr) (n c:Nat) (zs:List Int) (w:World) (h:RecsAt w w.heap.size 2 A n zs) (hn:n≤1048576) :
  Calls Tryzx.prog 115 #[.agg #[.slice A n c]] w fun e w'=>e = .returned (.int .i64 (overI facOne zs n))∧Below w.heap.size w w':=by
 have HA:=Lib.hid ((Below.refl w.heap.size w).alloc (Nat.le_refl _) (.cells #[.slice A n c] 127));have H:=Lib.hid h;cases hs:stoneB zs n
 ·have HF:=Lib.hid (overI_f (F:=facOne) hs)
  go_enter Tryzx.func115,Tryz.ntmps115;go_wp2;go_loopw [3,4] (fun s i wr=>s = .int .i64 0∧i = .int .i64 0∧wr.cell? ⟨w.heap.size,0,none⟩=some (.slice A n c)∧Below w.heap.size w wr) (fun _ i _=>n - (intOf i).toNat)
  case atStart=>exact ⟨rfl,rfl,cell_new0 _ _ _,HA.out⟩
  case round =>
   clear HA;obtain ⟨rfl,rfl,hbox,hb⟩:=hrel;have HB:=Lib.hid hb;by_cases h0:n=0
   ·subst h0
    clear hb;go_wp2;go_ret;exact ⟨ret_int HF.out.symm,HB.out⟩
   ·have hpos:(0:Int)<(n:Int):=by omega
    have hpos':0<n:=by omega
    have r1:=(H.out.below hb).mono hb.size;clear hb h0;go_wp2_with fail
    refine (sStoneOk_any _ _ _ zs _ r1).mono ?_;rw [hs];rintro e w1 ⟨rfl,hb1⟩;have HB1:=Lib.hid (HB.out.trans (hb1.mono HB.out.size));clear hb1;go_wp2;go_ret;exact ⟨ret_int HF.out.symm,HB1.out⟩
 ·have ho:=stoneB_out hs
  have HT:=Lib.hid (overI_t (F:=facOne) hs);have hn3:=ho.1.1;have hn6:=ho.1.2;have HPT:=Lib.hid ho.2.1;have HBD:=Lib.hid (overTo_bd facOne_ok ho.2.1);obtain ⟨b,off,rfl,hbB,hc⟩:=h.2 (by omega);have HC:=Lib.hid hc;clear hc h ho;go_enter Tryzx.func115,Tryz.ntmps115;go_wp2;go_loopw [3,4] (fun s i wr=>∃ j:Nat,j≤n∧i = .int .i64 j∧s = .int .i64 (overTo facOne zs n j)∧wr.cell? ⟨w.heap.size,0,none⟩=some (.slice (some ⟨b,off,none⟩) n c)∧Below w.heap.size w wr) (fun _ i _=>n - (intOf i).toNat)
  case atStart=>exact ⟨0,Nat.zero_le _,rfl,rfl,cell_new0 _ _ _,HA.out⟩
  case round =>
   clear HA;obtain ⟨j,hj,rfl,rfl,hbox,hb⟩:=hrel;have HB:=Lib.hid hb;have hgl:=World.block_lt_of_cell? _ _ hbox;simp only at hgl;by_cases hlt:j<n
   ·have r0:=(H.out.below hb).mono hb.size
    have hji:(j:Int)<(n:Int):=by omega
    clear hb;go_wp2_with fail
    refine (sStoneOk_any _ _ _ zs _ r0).mono ?_;rw [hs];rintro e w1 ⟨rfl,hb1⟩;have hb:=HB.out.trans (hb1.mono HB.out.size);have hbox1:=(hb1.cell (p:=⟨w.heap.size,0,none⟩) hgl).trans hbox;have hgl1:w.heap.size<w1.heap.size:=by have:=hb1.size; omega
    have HB1:=Lib.hid hb;have hm1:(j+1) % n<n:=Nat.mod_lt _ (by omega);obtain ⟨x0,x1⟩:=ptCells (fun i hi=>(hb.cell (by exact hbB)).trans (HC.out i hi)) hlt;obtain ⟨y0,y1⟩:=ptCells (fun i hi=>(hb.cell (by exact hbB)).trans (HC.out i hi)) hm1;have hz1:=hb.size;clear hb hb1 hbox hgl r0;have r1:Int.tmod ((j:Int)+1) (n:Int)=(((j+1) % n:Nat):Int):=rem_nat (j+1) n;have hpk:=HPT.out j hlt;have hp1:=HPT.out _ hm1;have HST:=Lib.hid (show overTo facOne zs n (j+1)=overTo facOne zs n j+part facOne zs j ((j+1) % n) from rfl);have hb0:=HBD.out j (by omega);unfold ptA at hpk hp1;have hcr:=crossI_bd hpk hp1;rw [part_one] at HST;generalize (j+1) % n=j1 at *
    generalize overTo facOne zs n j=S at *
    have i1:IntKind.i64.wrap ((j:Int)+1)=(j:Int)+1:=IntWalk.i64_in _ (by omega);have i3:IntKind.i64.wrap (j1:Int)=(j1:Int):=IntWalk.i64_in _ (by omega);have i6:(j1:Int)<(n:Int):=by omega
    have i8:¬ n=0:=by omega
    have i9:¬ (n:Int)=0:=by omega
    have i10:((n:Int) == 0)=false:=by simp; omega
    have i11:(0:Int)≤(j:Int):=by omega
    have i12:(0:Int)≤(j1:Int):=by omega
    have e5:IntKind.i64.wrap (S+crossI (nth zs (j*2)) (nth zs (j*2+1)) (nth zs (j1*2)) (nth zs (j1*2+1)))=S+crossI (nth zs (j*2)) (nth zs (j*2+1)) (nth zs (j1*2)) (nth zs (j1*2+1)):=IntWalk.i64_in _ (by omega);go_wp2;go_region_held3 (fun w'=>w'.cell? ⟨w.heap.size,0,none⟩=some (.slice (some ⟨b,off,none⟩) n c)∧(w'.cell? ⟨b,off+j*2,none⟩=some (.int .i64 (nth zs (j*2)))∧w'.cell? ⟨b,off+j*2+1,none⟩=some (.int .i64 (nth zs (j*2+1))))∧(w'.cell? ⟨b,off+j1*2,none⟩=some (.int .i64 (nth zs (j1*2)))∧w'.cell? ⟨b,off+j1*2+1,none⟩=some (.int .i64 (nth zs (j1*2+1))))) (first | (simp [*]; done) | (refine ⟨?_,⟨?_,?_⟩,⟨?_,?_⟩⟩ <;> (rw [hcc _ _ (by simp <;> omega)]; simp [*]))) ((go_at_call 116; refine (l04Cross_any _ _ _ _ _ hpk hp1).mono ?_; rintro e w2 ⟨rfl,hb2⟩; obtain ⟨hcc,hff⟩:=bcell hb2));have HB2:=Lib.hid (HB1.out.drew.trans (hb2.mono (by simp; omega)))
    have hbox2:=(hb2.cell (p:=⟨w.heap.size,0,none⟩) (by simp; omega)).trans hbox1
    clear hcc hff hb2;go_wp2;go_roundw
    case rel=>exact ⟨j+1,by omega,by go_num,by rw [HST.out],hbox2,HB2.out⟩
    case measure=>first | (simp [intOf]; done) | (simp [intOf]; omega)
   ·obtain rfl:j=n:=by omega
    clear hb;go_wp2;go_ret;exact ⟨ret_int HT.out.symm,HB.out⟩
theorem sWeightOf_any (A:Option Addr) (n c:Nat) (zs:List Int) (w:World) (h:RecsAt w w.heap.size 2 A n zs) (hn:n≤1048576) :
  Calls Tryzx.prog 92 #[.agg #[.slice A n c]] w fun e w'=>e = .returned (.int .i64 (weightI zs n))∧Below w.heap.size w w':=by
 have HA:=Lib.hid ((Below.refl w.heap.size w).alloc (Nat.le_refl _) (.cells #[.slice A n c] 127));have H0:RecsAt (w.alloc (.cells #[.slice A n c] 127)) (w.alloc (.cells #[.slice A n c] 127)).heap.size 2 A n zs:=(h.alloc (Nat.le_refl _) _).mono (by simp);have hbd:=overI_bd facOne_ok zs n;go_enter Tryzx.func92,Tryz.ntmps92;go_wp2_with fail
 refine (sAreaTwice_any _ _ _ zs _ H0 hn).mono ?_;rintro e w1 ⟨rfl,hb1⟩;have HB1:=Lib.hid (HA.out.trans (hb1.mono (by simp)));clear hb1;go_wp2;go_ret;exact ⟨ret_int (by unfold weightI; rfl),HB1.out⟩
end X
namespace X
open Go.RowKit
theorem cell_alloc_lt' {w:World} {o:Obj} {g i:Nat} (h:g<w.heap.size):(w.alloc o).cell? ⟨g,i,none⟩=w.cell? ⟨g,i,none⟩:=World.cell?_of_block (a:=⟨g,i,none⟩) (Below.heap_alloc w o g h)
theorem part_facX (zs:List Int) (i j:Nat):part facX zs i j=(nth zs (i*2)+nth zs (j*2))*crossI (nth zs (i*2)) (nth zs (i*2+1)) (nth zs (j*2)) (nth zs (j*2+1)):=rfl
def Two (w:World) (b:Nat) (u v:Value):Prop:=w.cell? ⟨b,0,none⟩=some u∧w.cell? ⟨b,1,none⟩=some v∧b<w.heap.size
theorem Two.new (w:World) (u v:Value) (t:TypeId):Two (w.alloc (.cells #[u,v] t)) w.heap.size u v:=by
 have h:=World.rowIs_alloc w #[u,v] t (fun i=>if i=0 then u else v) (fun i hi=>by simp at hi; match i,hi with | 0,_=>rfl | 1,_=>rfl)
 exact ⟨h.cell (by simp),h.cell (by simp),by simp⟩
theorem Two.alloc {w:World} {b:Nat} {u v:Value} (h:Two w b u v) (o:Obj):Two (w.alloc o) b u v:=⟨(cell_alloc_lt' h.2.2).trans h.1,(cell_alloc_lt' h.2.2).trans h.2.1,by have:=h.2.2; simp; omega⟩
set_option maxRecDepth 100000 in
set_option maxHeartbeats 1600000 in
theorem sMomentOf_any (A:Option Addr) (n c:Nat) (zs:List Int) (w:World) (h:RecsAt w w.heap.size 2 A n zs) (hn:n≤1048576) :
  Calls Tryzx.prog 93 #[.agg #[.slice A n c]] w fun e w'=>e = .returned (.int .i64 (overI facX zs n))∧Below w.heap.size w w':=by
 have HA:=Lib.hid ((Below.refl w.heap.size w).alloc (Nat.le_refl _) (.cells #[.slice A n c] 127));have H:=Lib.hid h;cases hs:stoneB zs n
 ·have HF:=Lib.hid (overI_f (F:=facX) hs)
  go_enter Tryzx.func93,Tryz.ntmps93;go_wp2;go_loopw [3,4] (fun s i wr=>s = .int .i64 0∧i = .int .i64 0∧wr.cell? ⟨w.heap.size,0,none⟩=some (.slice A n c)∧Below w.heap.size w wr) (fun _ i _=>n - (intOf i).toNat)
  case atStart=>exact ⟨rfl,rfl,cell_new0 _ _ _,HA.out⟩
  case round =>
   clear HA;obtain ⟨rfl,rfl,hbox,hb⟩:=hrel;have HB:=Lib.hid hb;by_cases h0:n=0
   ·subst h0
    clear hb;go_wp2;go_ret;exact ⟨ret_int HF.out.symm,HB.out⟩
   ·have hpos:(0:Int)<(n:Int):=by omega
    have hpos':0<n:=by omega
    have r1:=(H.out.below hb).mono hb.size;clear hb h0;go_wp2_with fail
    refine (sStoneOk_any _ _ _ zs _ r1).mono ?_;rw [hs];rintro e w1 ⟨rfl,hb1⟩;have HB1:=Lib.hid (HB.out.trans (hb1.mono HB.out.size));clear hb1;go_wp2;go_ret;exact ⟨ret_int HF.out.symm,HB1.out⟩
 ·have ho:=stoneB_out hs
  have HT:=Lib.hid (overI_t (F:=facX) hs);have hn3:=ho.1.1;have hn6:=ho.1.2;have HPT:=Lib.hid ho.2.1;have HBD:=Lib.hid (overTo_bd facX_ok ho.2.1);obtain ⟨b,off,rfl,hbB,hc⟩:=h.2 (by omega);have HC:=Lib.hid hc;clear hc h ho;go_enter Tryzx.func93,Tryz.ntmps93;go_wp2;go_loopw [3,4] (fun s i wr=>∃ j:Nat,j≤n∧i = .int .i64 j∧s = .int .i64 (overTo facX zs n j)∧wr.cell? ⟨w.heap.size,0,none⟩=some (.slice (some ⟨b,off,none⟩) n c)∧Below w.heap.size w wr) (fun _ i _=>n - (intOf i).toNat)
  case atStart=>exact ⟨0,Nat.zero_le _,rfl,rfl,cell_new0 _ _ _,HA.out⟩
  case round =>
   clear HA;obtain ⟨j,hj,rfl,rfl,hbox,hb⟩:=hrel;have HB:=Lib.hid hb;have hgl:=World.block_lt_of_cell? _ _ hbox;simp only at hgl;by_cases hlt:j<n
   ·have r0:=(H.out.below hb).mono hb.size
    have hji:(j:Int)<(n:Int):=by omega
    clear hb;go_wp2_with fail
    refine (sStoneOk_any _ _ _ zs _ r0).mono ?_;rw [hs];rintro e w1 ⟨rfl,hb1⟩;have hb:=HB.out.trans (hb1.mono HB.out.size);have hbox1:=(hb1.cell (p:=⟨w.heap.size,0,none⟩) hgl).trans hbox;have hgl1:w.heap.size<w1.heap.size:=by have:=hb1.size; omega
    have HB1:=Lib.hid hb;have hm1:(j+1) % n<n:=Nat.mod_lt _ (by omega);obtain ⟨x0,x1⟩:=ptCells (fun i hi=>(hb.cell (by exact hbB)).trans (HC.out i hi)) hlt;obtain ⟨y0,y1⟩:=ptCells (fun i hi=>(hb.cell (by exact hbB)).trans (HC.out i hi)) hm1;have hz1:=hb.size;clear hb hb1 hbox hgl r0;have r1:Int.tmod ((j:Int)+1) (n:Int)=(((j+1) % n:Nat):Int):=rem_nat (j+1) n;have hpk:=HPT.out j hlt;have hp1:=HPT.out _ hm1;have HST:=Lib.hid (show overTo facX zs n (j+1)=overTo facX zs n j+part facX zs j ((j+1) % n) from rfl);have hb0:=HBD.out j (by omega);unfold ptA at hpk hp1;have hcr:=crossI_bd hpk hp1;have HPB:=part_bd facX_ok (zs:=zs) (i:=j) (j:=(j+1) % n) hpk hp1;have hx1:=facX_ok _ _ _ _ hpk hp1;rw [part_facX] at HST HPB;unfold facX at hx1;generalize (j+1) % n=j1 at *
    generalize overTo facX zs n j=S at *
    have i1:IntKind.i64.wrap ((j:Int)+1)=(j:Int)+1:=IntWalk.i64_in _ (by omega);have i3:IntKind.i64.wrap (j1:Int)=(j1:Int):=IntWalk.i64_in _ (by omega);have i6:(j1:Int)<(n:Int):=by omega
    have i8:¬ n=0:=by omega
    have i9:¬ (n:Int)=0:=by omega
    have i10:((n:Int) == 0)=false:=by simp; omega
    have i11:(0:Int)≤(j:Int):=by omega
    have i12:(0:Int)≤(j1:Int):=by omega
    have e4:IntKind.i64.wrap (nth zs (j*2)+nth zs (j1*2))=nth zs (j*2)+nth zs (j1*2):=IntWalk.i64_in _ (by omega);have z0:(w1.alloc (.cells #[.int .i64 (nth zs (j*2)),.int .i64 (nth zs (j*2+1))] 108)).cell? ⟨w.heap.size,0,none⟩=some (.slice (some ⟨b,off,none⟩) n c):=(cell_alloc_lt' (by omega)).trans hbox1;have z1:(w1.alloc (.cells #[.int .i64 (nth zs (j*2)),.int .i64 (nth zs (j*2+1))] 108)).cell? ⟨b,off+j1*2,none⟩=some (.int .i64 (nth zs (j1*2))):=(cell_alloc_lt' (by omega)).trans y0;have z2:(w1.alloc (.cells #[.int .i64 (nth zs (j*2)),.int .i64 (nth zs (j*2+1))] 108)).cell? ⟨b,off+j1*2+1,none⟩=some (.int .i64 (nth zs (j1*2+1))):=(cell_alloc_lt' (by omega)).trans y1;have HB2:=Lib.hid ((HB1.out.alloc hz1 (.cells #[.int .i64 (nth zs (j*2)),.int .i64 (nth zs (j*2+1))] 108)).drew.alloc (by simp; omega) (.cells #[.int .i64 (nth zs (j1*2)),.int .i64 (nth zs (j1*2+1))] 108))
    have HXA:Hid (Two ((w1.alloc (.cells #[.int .i64 (nth zs (j*2)),.int .i64 (nth zs (j*2+1))] 108)).drew.alloc (.cells #[.int .i64 (nth zs (j1*2)),.int .i64 (nth zs (j1*2+1))] 108)) w1.heap.size (.int .i64 (nth zs (j*2))) (.int .i64 (nth zs (j*2+1))) ∧
      Two ((w1.alloc (.cells #[.int .i64 (nth zs (j*2)),.int .i64 (nth zs (j*2+1))] 108)).drew.alloc (.cells #[.int .i64 (nth zs (j1*2)),.int .i64 (nth zs (j1*2+1))] 108)) (w1.heap.size+1) (.int .i64 (nth zs (j1*2))) (.int .i64 (nth zs (j1*2+1)))):=by
     have h:=Two.new (w1.alloc (.cells #[.int .i64 (nth zs (j*2)),.int .i64 (nth zs (j*2+1))] 108)).drew (.int .i64 (nth zs (j1*2))) (.int .i64 (nth zs (j1*2+1))) 108;rw [World.size_drew,World.size_alloc] at h;exact ⟨(show Two (w1.alloc _).drew _ _ _ from Two.new w1 _ _ _).alloc _,h⟩
    have hbx7:((w1.alloc (.cells #[.int .i64 (nth zs (j*2)),.int .i64 (nth zs (j*2+1))] 108)).drew.alloc (.cells #[.int .i64 (nth zs (j1*2)),.int .i64 (nth zs (j1*2+1))] 108)).cell? ⟨w.heap.size,0,none⟩=some (.slice (some ⟨b,off,none⟩) n c):=(cell_alloc_lt' (by simp; omega)).trans z0
    clear y0 y1 HB1;have e6:IntKind.i64.wrap ((nth zs (j*2)+nth zs (j1*2))*crossI (nth zs (j*2)) (nth zs (j*2+1)) (nth zs (j1*2)) (nth zs (j1*2+1)))=(nth zs (j*2)+nth zs (j1*2))*crossI (nth zs (j*2)) (nth zs (j*2+1)) (nth zs (j1*2)) (nth zs (j1*2+1)):=IntWalk.i64_in _ (by omega);have e7:IntKind.i64.wrap (S+(nth zs (j*2)+nth zs (j1*2))*crossI (nth zs (j*2)) (nth zs (j*2+1)) (nth zs (j1*2)) (nth zs (j1*2+1)))=S+(nth zs (j*2)+nth zs (j1*2))*crossI (nth zs (j*2)) (nth zs (j*2+1)) (nth zs (j1*2)) (nth zs (j1*2+1)):=IntWalk.i64_in _ (by omega);clear HPB hx1 hcr hb0;go_wp2;go_region_held3 (fun w'=>w'.cell? ⟨w.heap.size,0,none⟩=some (.slice (some ⟨b,off,none⟩) n c)∧w'.cell? ⟨b,off+j1*2,none⟩=some (.int .i64 (nth zs (j1*2)))∧w'.cell? ⟨b,off+j1*2+1,none⟩=some (.int .i64 (nth zs (j1*2+1))))
     (first | exact ⟨z0,z1,z2⟩ | exact ⟨(cell_alloc_lt' (by simp; omega)).trans z0,(cell_alloc_lt' (by simp; omega)).trans z1,(cell_alloc_lt' (by simp; omega)).trans z2⟩) (fail)
    clear z0 z1 z2 x0 x1;have a0:=HXA.out.1.1;have a1:=HXA.out.1.2.1;have b0:=HXA.out.2.1;have b1:=HXA.out.2.2.1;go_wp2;go_region_held3 (fun w'=>w'.cell? ⟨w1.heap.size,0,none⟩=some (.int .i64 (nth zs (j*2)))∧w'.cell? ⟨w1.heap.size,1,none⟩=some (.int .i64 (nth zs (j*2+1)))∧w'.cell? ⟨w1.heap.size+1,0,none⟩=some (.int .i64 (nth zs (j1*2)))∧w'.cell? ⟨w1.heap.size+1,1,none⟩=some (.int .i64 (nth zs (j1*2+1))))
     (first | exact ⟨a0,a1,b0,b1⟩ | exact ⟨(hcc _ _ (by first | (simp; done) | (simp; omega))).trans a0,(hcc _ _ (by first | (simp; done) | (simp; omega))).trans a1,(hcc _ _ (by first | (simp; done) | (simp; omega))).trans b0,(hcc _ _ (by first | (simp; done) | (simp; omega))).trans b1⟩)
     ((go_at_call 116; refine (l04Cross_any _ _ _ _ _ hpk hp1).mono ?_; rintro e w2 ⟨rfl,hb2⟩; obtain ⟨hcc,hff⟩:=bcell hb2))
    have HB3:=Lib.hid (HB2.out.drew.trans (hb2.mono (by simp; omega)))
    have hbox2:=(hb2.cell (p:=⟨w.heap.size,0,none⟩) (by simp; omega)).trans hbx7
    clear hcc hff hb2 a0 a1 b0 b1 hbx7;go_wp2;go_roundw
    case rel=>exact ⟨j+1,by omega,by go_num,by rw [HST.out],hbox2,HB3.out⟩
    case measure=>first | (simp [intOf]; done) | (simp [intOf]; omega)
   ·obtain rfl:j=n:=by omega
    clear hb;go_wp2;go_ret;exact ⟨ret_int HT.out.symm,HB.out⟩
end X
section
open Go.RowKit
theorem wpList_appZ2 {P:Program} (w:World) {ops:Array Oper} {rest:List Oper} {o:Oper} {a:Act} {Q:Exit→Act→World→Prop} (hgd:o.guard=none) (s x:Operand) (t:TypeId)
  (ho:o.op = .call { callee := .builtin .append,args := #[s,x],argTypes := #[t,t] })
  (base:Nat) (E:TypeId) (K bytes:Nat) (zv:Value) (ht:P.underlying t=some (.slice E)) (hinfo:(P.info? E).map (fun i=>(i.zero,i.size,i.bytes))=some (some zv,K,bytes)) (hzc:zv.cells.size=K) (hK:0<K) (hby:bytes≤1024)
  (v:Value) (n:Nat) (xs:List Int) (hs:a.eval s=v) (hown:OwnR w base E K v n xs) (g m c:Nat) (ys:List Int) (hx:a.eval x = .slice (some ⟨g,0,none⟩) m c) (hy:ys.length=m*K)
  (hg:∀ i,i<m*K→w.cell? ⟨g,i,none⟩=some (.int .i64 (nth ys i))) (hn:n+m≤1048576) (B:Nat) (w0:World) (hb:Below B w0 w) (hB:B≤base) (hbase:base≤w.heap.size) (xs':List Int) (hxs:xs ++ ys=xs')
  (u:Value) (nu:Nat) (us:List Int) (hu:OwnR w base E K u nu us) (hap:ApartV v u)
  (h:∀ g' cap' w',OwnR w' base E K (.slice (some ⟨g',0,none⟩) (n+m) cap') (n+m) xs'→Below B w0 w'→OwnR w' base E K u nu us→ApartV (.slice (some ⟨g',0,none⟩) (n+m) cap') u→(∀ g2 T m2 f,T ≠ E→RowF w g2 T m2 f→RowF w' g2 T m2 f)→wpList P ops Q rest (a.put o.dst (.slice (some ⟨g',0,none⟩) (n+m) cap')) w') (hm:1≤m):wpList P ops Q (o :: rest) a w:=by
 subst hxs;obtain ⟨i0,hi0,hz0,hz1,hz2⟩:=info_parts hinfo;have hbb:(n+m)*bytes≤1048576*1024:=Nat.mul_le_mul hn hby;have hnews:∀ j v,(ys.map (Value.int .i64))[j]?=some v→w.cell? ((⟨g,0,none⟩:Addr).add j)=some v:=by
  intro j u hj;have hjl:j<ys.length:=by
   have:=(List.getElem?_eq_some_iff.1 hj).1;simpa using this
  rw [List.getElem?_map,List.getElem?_eq_getElem hjl] at hj;simp at hj;subst hj;rw [Go.WideShapes.add_plain,Nat.zero_add,hg j (by rw [← hy]; exact hjl),nth_get ys j hjl]
 have hone:∀ v ∈ ys.map (Value.int .i64),v.oneCell'=true:=by
  intro u hu;obtain ⟨z,_,rfl⟩:=List.mem_map.1 hu;rfl
 have fin:∀ g' cap' w',w'.ownsRow base E K (.slice (some ⟨g',0,none⟩) (n+m) cap') (n+m) (xs.map (Value.int .i64) ++ ys.map (Value.int .i64))→w.grownBy w' v.ownBlock→(v.ownBlock=some g' ∨ w.heap.size≤g')→wpList P ops Q rest (a.put o.dst (.slice (some ⟨g',0,none⟩) (n+m) cap')) w':=by
  intro g' cap' w' ho' hgr hwhere;refine h g' cap' w' ⟨by rw [List.map_append]; exact ho',by rw [List.length_append,hown.2,hy,Nat.add_mul]⟩ (hb.grown hgr (by omega) (fun k hk=>by have:=hown.ownLt k hk; omega)) (hu.other hgr (fun k hk e=>hap k e hk)) ?_ (fun g2 T m2 f hT hr=>hr.of_block (grown_block hgr g2 hr.lt (fun e=>hT (hown.typeOf g2 e.symm hr))))
  intro k hk hk2;simp [Value.ownBlock] at hk;subst hk;rcases hwhere with e | e
  ·exact hap _ e hk2
  ·have:=hu.blockLt _ hk2
   omega
 by_cases hfit:∃ g0 cap0,v = .slice (some ⟨g0,0,none⟩) n cap0∧n+m≤cap0
 ·obtain ⟨g0,cap0,rfl,hfit⟩:=hfit
  refine wpList_append_fits w hgd s x t ho base E i0 K ht hi0 hz1 g0 n cap0 _ hs hown.1 ⟨g,0,none⟩ m c _ hx (by simpa using hy) hnews hone hfit ?_;intro w' ho' hgr;exact fin g0 cap0 w' ho' hgr (.inl rfl)
 ·obtain ⟨A0,cap0,rfl,hnc⟩:=hown.slice
  have hA:A0=none→n=0∧cap0=0:=by
   intro e;subst e;rcases hown.form with ⟨e,e2,_⟩ | ⟨g0,c0,e,_⟩
   ·simp at e
    exact ⟨e2,e.2⟩
   ·simp at e
  have hrec:=hown.recs;have hfull:cap0<n+m:=by
   rcases hown.form with ⟨e,e2,_⟩ | ⟨g0,c0,e,_⟩
   ·simp at e
    omega
   ·simp at e
    obtain ⟨rfl,rfl⟩:=e;have:¬ n+m≤cap0:=fun hh=>hfit ⟨g0,cap0,rfl,hh⟩
    omega
  refine wpList_append_grows w hgd s x t ho E i0 zv K bytes ht hi0 hz0 hz1 hz2 hzc hK A0 n cap0 (xs.map (Value.int .i64)) hs hA (by simpa using hown.2) ?_ ⟨g,0,none⟩ m c _ hx (by simpa using hy) hnews hone hfull (by unfold maxLen; omega) (by omega) ?_
  ·intro b hb' j v hj
   subst hb';have hjl:j<xs.length:=by
    have:=(List.getElem?_eq_some_iff.1 hj).1;simpa using this
   rw [List.getElem?_map,List.getElem?_eq_getElem hjl] at hj;simp at hj;subst hj;have hn0:0<n:=by
    rcases Nat.eq_zero_or_pos n with e | e
    ·rw [hown.2,e,Nat.zero_mul] at hjl; omega
    ·exact e
   obtain ⟨b',off,e,_,hcc⟩:=hrec.2 hn0;simp at e;subst e;rw [Go.WideShapes.add_plain,hcc j (by rw [← hown.2]; exact hjl),nth_get xs j hjl]
  ·intro v' w' ho' hgr
   have hgr':w.grownBy w' (Value.slice A0 n cap0).ownBlock:=by
    obtain ⟨a1,a2,a3,a4,a5⟩:=hgr;exact ⟨a1,a2,a3,a4,fun k hk _=>a5 k hk (by simp)⟩
   rcases ho'.2 with ⟨_,h2⟩ | ⟨g',cap',cur,rfl,hg',hr⟩
   ·omega
   ·refine fin g' cap' w' ⟨ho'.1,.inr ⟨g',cap',cur,rfl,by omega,hr⟩⟩ hgr' (.inr hg')
end
end Go.Proofs.YtjcgklifabcfkaaGreat
