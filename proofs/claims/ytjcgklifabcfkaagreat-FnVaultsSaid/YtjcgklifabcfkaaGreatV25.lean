/-
  Texts that the law stands on, part 25.
-/
import Derived.Test.YtjcgklifabcfkaaGreatV24
set_option maxRecDepth 100000
set_option linter.unusedVariables false
set_option linter.unusedSimpArgs false
set_option maxHeartbeats 12800000
namespace Go.Proofs.YtjcgklifabcfkaaGreat
namespace X
open Go.RowKit
theorem cell_alloc_lt' {w:World} {o:Obj} {g i:Nat} (h:g<w.heap.size):(w.alloc o).cell? ⟨g,i,none⟩=w.cell? ⟨g,i,none⟩:=World.cell?_of_block (a:=⟨g,i,none⟩) (Below.heap_alloc w o g h)
theorem part_facX (zs:List Int) (i j:Nat):part facX zs i j=(nth zs (i*2)+nth zs (j*2))*crossI (nth zs (i*2)) (nth zs (i*2+1)) (nth zs (j*2)) (nth zs (j*2+1)):=rfl
def Two (w:World) (b:Nat) (u v:Value):Prop:=w.cell? ⟨b,0,none⟩=some u/\w.cell? ⟨b,1,none⟩=some v/\b<w.heap.size
theorem Two.new (w:World) (u v:Value) (t:TypeId):Two (w.alloc (.cells #[u,v] t)) w.heap.size u v:=by
 have h:=World.rowIs_alloc w #[u,v] t (fun i=>if i=0 then u else v) (fun i hi=>by simp at hi; match i,hi with | 0,_=>rfl | 1,_=>rfl)
 exact ⟨h.cell (by simp),h.cell (by simp),by simp⟩
theorem Two.alloc {w:World} {b:Nat} {u v:Value} (h:Two w b u v) (o:Obj):Two (w.alloc o) b u v:=⟨(cell_alloc_lt' h.2.2).trans h.1,(cell_alloc_lt' h.2.2).trans h.2.1,by have:=h.2.2; simp; omega⟩
theorem sMomentOf_any (A:Option Addr) (n c:Nat) (zs:List Int) (w:World) (h:RecsAt w w.heap.size 2 A n zs) (hn:n<=1048576) :
  Calls Tryzx.prog 93 #[.agg #[.slice A n c]] w fun e w'=>e = .returned (.int .i64 (overI facX zs n))/\Below w.heap.size w w':=by
 have HA:=q_ ((Below.refl w.heap.size w).alloc (Nat.le_refl _) (.cells #[.slice A n c] 127));have H:=q_ h;cases hs:stoneB zs n
 ·have HF:=q_ (overI_f (F:=facX) hs)
  go_enter Tryzx.func93,Tryz.ntmps93;go_wp2;go_loopw [3,4] (fun s i wr=>s = .int .i64 0/\i = .int .i64 0/\wr.cell? ⟨w.heap.size,0,none⟩=some (.slice A n c)/\Below w.heap.size w wr) (fun _ i _=>n - (intOf i).toNat)
  case atStart=>exact ⟨rfl,rfl,cell_new0 _ _ _,HA.out⟩
  case round =>
   clear HA;obtain ⟨rfl,rfl,hbox,hb⟩:=hrel;have HB:=q_ hb;by_cases h0:n=0
   ·subst h0
    clear hb;go_wp2;go_ret;exact ⟨ret_int HF.out.symm,HB.out⟩
   ·have hpos:(0:Int)<(n:Int):=by omega
    have hpos':0<n:=by omega
    have r1:=(H.out.below hb).mono hb.size;clear hb h0;go_wp2_with fail
    refine (sStoneOk_any _ _ _ zs _ r1).mono ?_;rw [hs];rintro e w1 ⟨rfl,hb1⟩;have HB1:=q_ (HB.out.trans (hb1.mono HB.out.size));clear hb1;go_wp2;go_ret;exact ⟨ret_int HF.out.symm,HB1.out⟩
 ·have ho:=stoneB_out hs
  have HT:=q_ (overI_t (F:=facX) hs);have hn3:=ho.1.1;have hn6:=ho.1.2;have HPT:=q_ ho.2.1;have HBD:=q_ (overTo_bd facX_ok ho.2.1);obtain ⟨b,off,rfl,hbB,hc⟩:=h.2 (by omega);have HC:=q_ hc;clear hc h ho;go_enter Tryzx.func93,Tryz.ntmps93;go_wp2;go_loopw [3,4] (fun s i wr=>∃ j:Nat,j<=n/\i = .int .i64 j/\s = .int .i64 (overTo facX zs n j)/\wr.cell? ⟨w.heap.size,0,none⟩=some (.slice (some ⟨b,off,none⟩) n c)/\Below w.heap.size w wr) (fun _ i _=>n - (intOf i).toNat)
  case atStart=>exact ⟨0,Nat.zero_le _,rfl,rfl,cell_new0 _ _ _,HA.out⟩
  case round =>
   clear HA;obtain ⟨j,hj,rfl,rfl,hbox,hb⟩:=hrel;have HB:=q_ hb;have hgl:=World.block_lt_of_cell? _ _ hbox;simp only at hgl;by_cases hlt:j<n
   ·have r0:=(H.out.below hb).mono hb.size
    have hji:(j:Int)<(n:Int):=by omega
    clear hb;go_wp2_with fail
    refine (sStoneOk_any _ _ _ zs _ r0).mono ?_;rw [hs];rintro e w1 ⟨rfl,hb1⟩;have hb:=HB.out.trans (hb1.mono HB.out.size);have hbox1:=(hb1.cell (p:=⟨w.heap.size,0,none⟩) hgl).trans hbox;have hgl1:w.heap.size<w1.heap.size:=by have:=hb1.size; omega
    have HB1:=q_ hb;have hm1:(j+1) % n<n:=Nat.mod_lt _ (by omega);obtain ⟨x0,x1⟩:=ptCells (fun i hi=>(hb.cell (by exact hbB)).trans (HC.out i hi)) hlt;obtain ⟨y0,y1⟩:=ptCells (fun i hi=>(hb.cell (by exact hbB)).trans (HC.out i hi)) hm1;have hz1:=hb.size;clear hb hb1 hbox hgl r0;have r1:Int.tmod ((j:Int)+1) (n:Int)=(((j+1) % n:Nat):Int):=rem_nat (j+1) n;have hpk:=HPT.out j hlt;have hp1:=HPT.out _ hm1;have HST:=q_ (show overTo facX zs n (j+1)=overTo facX zs n j+part facX zs j ((j+1) % n) from rfl);have hb0:=HBD.out j (by omega);unfold ptA at hpk hp1;have hcr:=crossI_bd hpk hp1;have HPB:=part_bd facX_ok (zs:=zs) (i:=j) (j:=(j+1) % n) hpk hp1;have hx1:=facX_ok _ _ _ _ hpk hp1;rw [part_facX] at HST HPB;unfold facX at hx1;generalize (j+1) % n=j1 at *
    generalize overTo facX zs n j=S at *
    have i1:IntKind.i64.wrap ((j:Int)+1)=(j:Int)+1:=iW (by omega);have i3:IntKind.i64.wrap (j1:Int)=(j1:Int):=iW (by omega);have i6:(j1:Int)<(n:Int):=by omega
    have i8:¬ n=0:=by omega
    have i9:¬ (n:Int)=0:=by omega
    have i10:((n:Int) == 0)=false:=by simp; omega
    have i11:(0:Int)<=(j:Int):=by omega
    have i12:(0:Int)<=(j1:Int):=by omega
    have e4:IntKind.i64.wrap (nth zs (j*2)+nth zs (j1*2))=nth zs (j*2)+nth zs (j1*2):=iW (by omega);have z0:(w1.alloc (.cells #[.int .i64 (nth zs (j*2)),.int .i64 (nth zs (j*2+1))] 108)).cell? ⟨w.heap.size,0,none⟩=some (.slice (some ⟨b,off,none⟩) n c):=(cell_alloc_lt' (by omega)).trans hbox1;have z1:(w1.alloc (.cells #[.int .i64 (nth zs (j*2)),.int .i64 (nth zs (j*2+1))] 108)).cell? ⟨b,off+j1*2,none⟩=some (.int .i64 (nth zs (j1*2))):=(cell_alloc_lt' (by omega)).trans y0;have z2:(w1.alloc (.cells #[.int .i64 (nth zs (j*2)),.int .i64 (nth zs (j*2+1))] 108)).cell? ⟨b,off+j1*2+1,none⟩=some (.int .i64 (nth zs (j1*2+1))):=(cell_alloc_lt' (by omega)).trans y1;have HB2:=q_ ((HB1.out.alloc hz1 (.cells #[.int .i64 (nth zs (j*2)),.int .i64 (nth zs (j*2+1))] 108)).drew.alloc (by simp; omega) (.cells #[.int .i64 (nth zs (j1*2)),.int .i64 (nth zs (j1*2+1))] 108))
    have HXA:Hid (Two ((w1.alloc (.cells #[.int .i64 (nth zs (j*2)),.int .i64 (nth zs (j*2+1))] 108)).drew.alloc (.cells #[.int .i64 (nth zs (j1*2)),.int .i64 (nth zs (j1*2+1))] 108)) w1.heap.size (.int .i64 (nth zs (j*2))) (.int .i64 (nth zs (j*2+1))) /\
      Two ((w1.alloc (.cells #[.int .i64 (nth zs (j*2)),.int .i64 (nth zs (j*2+1))] 108)).drew.alloc (.cells #[.int .i64 (nth zs (j1*2)),.int .i64 (nth zs (j1*2+1))] 108)) (w1.heap.size+1) (.int .i64 (nth zs (j1*2))) (.int .i64 (nth zs (j1*2+1)))):=by
     have h:=Two.new (w1.alloc (.cells #[.int .i64 (nth zs (j*2)),.int .i64 (nth zs (j*2+1))] 108)).drew (.int .i64 (nth zs (j1*2))) (.int .i64 (nth zs (j1*2+1))) 108;rw [World.size_drew,World.size_alloc] at h;exact ⟨(show Two (w1.alloc _).drew _ _ _ from Two.new w1 _ _ _).alloc _,h⟩
    have hbx7:((w1.alloc (.cells #[.int .i64 (nth zs (j*2)),.int .i64 (nth zs (j*2+1))] 108)).drew.alloc (.cells #[.int .i64 (nth zs (j1*2)),.int .i64 (nth zs (j1*2+1))] 108)).cell? ⟨w.heap.size,0,none⟩=some (.slice (some ⟨b,off,none⟩) n c):=(cell_alloc_lt' (by simp; omega)).trans z0
    clear y0 y1 HB1;have e6:IntKind.i64.wrap ((nth zs (j*2)+nth zs (j1*2))*crossI (nth zs (j*2)) (nth zs (j*2+1)) (nth zs (j1*2)) (nth zs (j1*2+1)))=(nth zs (j*2)+nth zs (j1*2))*crossI (nth zs (j*2)) (nth zs (j*2+1)) (nth zs (j1*2)) (nth zs (j1*2+1)):=iW (by omega);have e7:IntKind.i64.wrap (S+(nth zs (j*2)+nth zs (j1*2))*crossI (nth zs (j*2)) (nth zs (j*2+1)) (nth zs (j1*2)) (nth zs (j1*2+1)))=S+(nth zs (j*2)+nth zs (j1*2))*crossI (nth zs (j*2)) (nth zs (j*2+1)) (nth zs (j1*2)) (nth zs (j1*2+1)):=iW (by omega);clear HPB hx1 hcr hb0;go_wp2;go_region_held3 (fun w'=>w'.cell? ⟨w.heap.size,0,none⟩=some (.slice (some ⟨b,off,none⟩) n c)/\w'.cell? ⟨b,off+j1*2,none⟩=some (.int .i64 (nth zs (j1*2)))/\w'.cell? ⟨b,off+j1*2+1,none⟩=some (.int .i64 (nth zs (j1*2+1))))
     (first | exact ⟨z0,z1,z2⟩ | exact ⟨(cell_alloc_lt' (by simp; omega)).trans z0,(cell_alloc_lt' (by simp; omega)).trans z1,(cell_alloc_lt' (by simp; omega)).trans z2⟩) (fail)
    clear z0 z1 z2 x0 x1;have a0:=HXA.out.1.1;have a1:=HXA.out.1.2.1;have b0:=HXA.out.2.1;have b1:=HXA.out.2.2.1;go_wp2;go_region_held3 (fun w'=>w'.cell? ⟨w1.heap.size,0,none⟩=some (.int .i64 (nth zs (j*2)))/\w'.cell? ⟨w1.heap.size,1,none⟩=some (.int .i64 (nth zs (j*2+1)))/\w'.cell? ⟨w1.heap.size+1,0,none⟩=some (.int .i64 (nth zs (j1*2)))/\w'.cell? ⟨w1.heap.size+1,1,none⟩=some (.int .i64 (nth zs (j1*2+1))))
     (first | exact ⟨a0,a1,b0,b1⟩ | exact ⟨(hcc _ _ (by first | (simp; done) | (simp; omega))).trans a0,(hcc _ _ (by first | (simp; done) | (simp; omega))).trans a1,(hcc _ _ (by first | (simp; done) | (simp; omega))).trans b0,(hcc _ _ (by first | (simp; done) | (simp; omega))).trans b1⟩)
     ((go_at_call 116; refine (l04Cross_any _ _ _ _ _ hpk hp1).mono ?_; rintro e w2 ⟨rfl,hb2⟩; obtain ⟨hcc,hff⟩:=bcell hb2))
    have HB3:=q_ (HB2.out.drew.trans (hb2.mono (by simp; omega)))
    have hbox2:=(hb2.cell (p:=⟨w.heap.size,0,none⟩) (by simp; omega)).trans hbx7
    clear hcc hff hb2 a0 a1 b0 b1 hbx7;go_wp2;go_roundw
    case rel=>exact ⟨j+1,by omega,by go_num,by rw [HST.out],hbox2,HB3.out⟩
    case measure=>first | (simp [intOf]; done) | (simp [intOf]; omega)
   ·obtain rfl:j=n:=by omega
    clear hb;go_wp2;go_ret;exact ⟨ret_int HT.out.symm,HB.out⟩
end X
section
open Go.RowKit
theorem wpList_appZ2 {P:Program} (w:World) {ops:Array Oper} {rest:List Oper} {o:Oper} {a:Act} {Q:Exit->Act->World->Prop} (hgd:o.guard=none) (s x:Operand) (t:TypeId)
  (ho:o.op = .call { callee := .builtin .append,args := #[s,x],argTypes := #[t,t] })
  (base:Nat) (E:TypeId) (K bytes:Nat) (zv:Value) (ht:P.underlying t=some (.slice E)) (hinfo:(P.info? E).map (fun i=>(i.zero,i.size,i.bytes))=some (some zv,K,bytes)) (hzc:zv.cells.size=K) (hK:0<K) (hby:bytes<=1024)
  (v:Value) (n:Nat) (xs:List Int) (hs:a.eval s=v) (hown:OwnR w base E K v n xs) (g m c:Nat) (ys:List Int) (hx:a.eval x = .slice (some ⟨g,0,none⟩) m c) (hy:ys.length=m*K)
  (hg:∀ i,i<m*K->w.cell? ⟨g,i,none⟩=some (.int .i64 (nth ys i))) (hn:n+m<=1048576) (B:Nat) (w0:World) (hb:Below B w0 w) (hB:B<=base) (hbase:base<=w.heap.size) (xs':List Int) (hxs:xs ++ ys=xs')
  (u:Value) (nu:Nat) (us:List Int) (hu:OwnR w base E K u nu us) (hap:ApartV v u)
  (h:∀ g' cap' w',OwnR w' base E K (.slice (some ⟨g',0,none⟩) (n+m) cap') (n+m) xs'->Below B w0 w'->OwnR w' base E K u nu us->ApartV (.slice (some ⟨g',0,none⟩) (n+m) cap') u->(∀ g2 T m2 f,T ≠ E->RowF w g2 T m2 f->RowF w' g2 T m2 f)->wpList P ops Q rest (a.put o.dst (.slice (some ⟨g',0,none⟩) (n+m) cap')) w') (hm:1<=m):wpList P ops Q (o :: rest) a w:=by
 subst hxs;obtain ⟨i0,hi0,hz0,hz1,hz2⟩:=info_parts hinfo;have hbb:(n+m)*bytes<=1048576*1024:=Nat.mul_le_mul hn hby;have hnews:∀ j v,(ys.map (Value.int .i64))[j]?=some v->w.cell? ((⟨g,0,none⟩:Addr).add j)=some v:=by
  intro j u hj;have hjl:j<ys.length:=by
   have:=(List.getElem?_eq_some_iff.1 hj).1;simpa using this
  rw [List.getElem?_map,List.getElem?_eq_getElem hjl] at hj;simp at hj;subst hj;rw [Go.WideShapes.add_plain,Nat.zero_add,hg j (by rw [<- hy]; exact hjl),nth_get ys j hjl]
 have hone:∀ v ∈ ys.map (Value.int .i64),v.oneCell'=true:=by
  intro u hu;obtain ⟨z,_,rfl⟩:=List.mem_map.1 hu;rfl
 have fin:∀ g' cap' w',w'.ownsRow base E K (.slice (some ⟨g',0,none⟩) (n+m) cap') (n+m) (xs.map (Value.int .i64) ++ ys.map (Value.int .i64))->w.grownBy w' v.ownBlock->(v.ownBlock=some g' ∨ w.heap.size<=g')->wpList P ops Q rest (a.put o.dst (.slice (some ⟨g',0,none⟩) (n+m) cap')) w':=by
  intro g' cap' w' ho' hgr hwhere;refine h g' cap' w' ⟨by rw [List.map_append]; exact ho',by rw [List.length_append,hown.2,hy,Nat.add_mul]⟩ (hb.grown hgr (by omega) (fun k hk=>by have:=hown.ownLt k hk; omega)) (hu.other hgr (fun k hk e=>hap k e hk)) ?_ (fun g2 T m2 f hT hr=>hr.of_block (grown_block hgr g2 hr.lt (fun e=>hT (hown.typeOf g2 e.symm hr))))
  intro k hk hk2;simp [Value.ownBlock] at hk;subst hk;rcases hwhere with e | e
  ·exact hap _ e hk2
  ·have:=hu.blockLt _ hk2
   omega
 by_cases hfit:∃ g0 cap0,v = .slice (some ⟨g0,0,none⟩) n cap0/\n+m<=cap0
 ·obtain ⟨g0,cap0,rfl,hfit⟩:=hfit
  refine wpList_append_fits w hgd s x t ho base E i0 K ht hi0 hz1 g0 n cap0 _ hs hown.1 ⟨g,0,none⟩ m c _ hx (by simpa using hy) hnews hone hfit ?_;intro w' ho' hgr;exact fin g0 cap0 w' ho' hgr (.inl rfl)
 ·obtain ⟨A0,cap0,rfl,hnc⟩:=hown.slice
  have hA:A0=none->n=0/\cap0=0:=by
   intro e;subst e;rcases hown.form with ⟨e,e2,_⟩ | ⟨g0,c0,e,_⟩
   ·simp at e
    exact ⟨e2,e.2⟩
   ·simp at e
  have hrec:=hown.recs;have hfull:cap0<n+m:=by
   rcases hown.form with ⟨e,e2,_⟩ | ⟨g0,c0,e,_⟩
   ·simp at e
    omega
   ·simp at e
    obtain ⟨rfl,rfl⟩:=e;have:¬ n+m<=cap0:=fun hh=>hfit ⟨g0,cap0,rfl,hh⟩
    omega
  refine wpList_append_grows w hgd s x t ho E i0 zv K bytes ht hi0 hz0 hz1 hz2 hzc hK A0 n cap0 (xs.map (Value.int .i64)) hs hA (by simpa using hown.2) ?_ ⟨g,0,none⟩ m c _ hx (by simpa using hy) hnews hone hfull (by unfold maxLen; omega) (by omega) ?_
  ·intro b hb' j v hj
   subst hb';have hjl:j<xs.length:=by
    have:=(List.getElem?_eq_some_iff.1 hj).1;simpa using this
   rw [List.getElem?_map,List.getElem?_eq_getElem hjl] at hj;simp at hj;subst hj;have hn0:0<n:=by
    rcases Nat.eq_zero_or_pos n with e | e
    ·rw [hown.2,e,Nat.zero_mul] at hjl; omega
    ·exact e
   obtain ⟨b',off,e,_,hcc⟩:=hrec.2 hn0;simp at e;subst e;rw [Go.WideShapes.add_plain,hcc j (by rw [<- hown.2]; exact hjl),nth_get xs j hjl]
  ·intro v' w' ho' hgr
   have hgr':w.grownBy w' (Value.slice A0 n cap0).ownBlock:=by
    obtain ⟨a1,a2,a3,a4,a5⟩:=hgr;exact ⟨a1,a2,a3,a4,fun k hk _=>a5 k hk (by simp)⟩
   rcases ho'.2 with ⟨_,h2⟩ | ⟨g',cap',cur,rfl,hg',hr⟩
   ·omega
   ·refine fin g' cap' w' ⟨ho'.1,.inr ⟨g',cap',cur,rfl,by omega,hr⟩⟩ hgr' (.inr hg')
end
namespace X
open Go.RowKit
def lwL (zs ls:List Int) (q k:Nat):List Int:=(List.range k).map (leftW zs ls q)
def lmL (zs ls:List Int) (q k:Nat):List Int:=(List.range k).map (leftM zs ls q)
theorem lwL_nth {zs ls:List Int} {q k j:Nat} (h:j<k):nth (lwL zs ls q k) j=leftW zs ls q j:=by simp [nth,lwL,List.getD,h]
theorem lmL_nth {zs ls:List Int} {q k j:Nat} (h:j<k):nth (lmL zs ls q k) j=leftM zs ls q j:=by simp [nth,lmL,List.getD,h]
theorem lwL_step (zs ls:List Int) (q k:Nat):lwL zs ls q (k+1) ++ [leftW zs ls q k+kwTo zs ls k q]=lwL zs ls q (k+1+1):=by simp [lwL,List.range_succ,leftW]
theorem lmL_step (zs ls:List Int) (q k:Nat):lmL zs ls q (k+1) ++ [leftM zs ls q k+kmTo zs ls k q]=lmL zs ls q (k+1+1):=by simp [lmL,List.range_succ,leftM]
def LeftPost (w:World) (zs ls:List Int) (q n:Nat) (e:Ending) (w':World):Prop :=
 ∃ A c A' c',e = .returned (.tuple #[.slice A n c,.slice A' n c'])/\IntsAt w' w'.heap.size A n (lwL zs ls q n)/\IntsAt w' w'.heap.size A' n (lmL zs ls q n)/\Below w.heap.size w w'
def LeftPostO (w:World) (zs ls:List Int) (q n:Nat) (e:Ending) (w':World):Prop :=
 ∃ A c A' c',e = .returned (.tuple #[.slice A n c,.slice A' n c'])/\OwnR w' (w.heap.size+1) 3 1 (.slice A n c) n (lwL zs ls q n)/\OwnR w' (w.heap.size+1) 3 1 (.slice A' n c') n (lmL zs ls q n)/\Below w.heap.size w w'
structure LRel (w:World) (zs ls:List Int) (q j:Nat) (va:Value) (v6 v7:Value) (wr:World):Prop where
 ws:OwnR wr (w.heap.size+1) 3 1 v6 j (lwL zs ls q j)
 ms:OwnR wr (w.heap.size+1) 3 1 v7 j (lmL zs ls q j)
 apart:ApartV v6 v7
 box:RowF wr w.heap.size 45 1 (fun _=>va)
 below:Below w.heap.size w wr
theorem LRel.after {w wr w':World} {zs ls:List Int} {q j:Nat} {va v6 v7:Value} (h:LRel w zs ls q j va v6 v7 wr) (hb:Below wr.heap.size wr w'):LRel w zs ls q j va v6 v7 w' :=
 ⟨h.ws.below hb,h.ms.below hb,h.apart,h.box.after hb,h.below.trans (hb.mono h.below.size)⟩
theorem LRel.drew {w wr:World} {zs ls:List Int} {q j:Nat} {va v6 v7:Value} (h:LRel w zs ls q j va v6 v7 wr):LRel w zs ls q j va v6 v7 wr.drew:=⟨h.ws,h.ms,h.apart,h.box.drew,below_drewN h.below 1⟩
theorem LRel.drewN {w wr:World} {zs ls:List Int} {q j:Nat} {va v6 v7:Value} (h:LRel w zs ls q j va v6 v7 wr) (m:Nat):LRel w zs ls q j va v6 v7 (wr.drewN m):=⟨h.ws,h.ms,h.apart,h.box.drewN m,below_drewN h.below m⟩
theorem sLeftO_any (A:Option Addr) (n c:Nat) (zs:List Int) (B:Option Addr) (q d:Nat) (ls:List Int) (w:World) (h:RecsAt w w.heap.size 4 A n zs) (hl:RecsAt w w.heap.size 3 B q ls) (hL:loadsB zs n ls q=true) :
  Calls Tryzx.prog 67 #[.agg #[.slice A n c],.slice B q d] w (LeftPostO w zs ls q n):=by
 obtain ⟨hA,hq6,hLA⟩:=loadsB_out hL;obtain ⟨hn8,hpt⟩:=archB_out hA;have HPT:=q_ hpt;have HLA:=q_ hLA;have HKB:=q_ (fun k i hi=>kwTo_bd zs hLA hq6 k (i:=i) hi);have HMB:=q_ (fun k i hi=>kmTo_bd zs hLA hq6 k (i:=i) hi);have HWB:=q_ (leftW_bd zs hLA hq6);have HNB:=q_ (leftM_bd zs hLA hq6);obtain ⟨b,off,rfl,hbB,hcell⟩:=h.2 (by omega);have HC:=q_ (fun j (hj:j<n)=>jtCells hcell hj);have HLD:=q_ hl;have HR0:Hid (LRel w zs ls q 1 (.slice (some ⟨b,off,none⟩) n c) (.slice (some ⟨w.heap.size+1,0,none⟩) 1 1) (.slice (some ⟨w.heap.size+1+1,0,none⟩) 1 1) (((w.alloc (.cells #[.slice (some ⟨b,off,none⟩) n c] 45)).alloc (.cells #[.int .i64 0] 3)).alloc (.cells #[.int .i64 0] 3))):=by
  have e1:(w.alloc (.cells #[.slice (some ⟨b,off,none⟩) n c] 45)).heap.size=w.heap.size+1:=World.size_alloc _ _;have e2:((w.alloc (.cells #[.slice (some ⟨b,off,none⟩) n c] 45)).alloc (.cells #[.int .i64 0] 3)).heap.size=w.heap.size+1+1:=by rw [World.size_alloc,e1]
  have h1:=World.ownsRow_lit (base:=w.heap.size+1) (e:=3) (size:=1) (w.alloc (.cells #[.slice (some ⟨b,off,none⟩) n c] 45)) #[.int .i64 0] 1 (by omega) (by simp [maxLen]) (by simp);have h2:=World.ownsRow_lit (base:=w.heap.size+1) (e:=3) (size:=1) ((w.alloc (.cells #[.slice (some ⟨b,off,none⟩) n c] 45)).alloc (.cells #[.int .i64 0] 3)) #[.int .i64 0] 1 (by omega) (by simp [maxLen]) (by simp);rw [e1] at h1;rw [e2] at h2;refine ⟨⟨World.ownsRow.alloc h1 _,by simp [lwL]⟩,⟨h2,by simp [lmL]⟩,?_,((rowF_new1S w _ _).alloc _).alloc _,((bnw _ _).alloc (by simp) _).alloc (by simp; omega) _⟩
  intro k hk hk2;simp [Value.ownBlock] at hk hk2;omega
 clear hcell h hl hL hA hLA hpt;go_enter Tryzx.func67,Tryz.ntmps67;go_wp2;go_loopw [6,7,8] (fun v6 v7 v8 wr=>∃ k:Nat,k+1<=n/\v8 = .int .i64 ((k:Int)+1)/\Hid (LRel w zs ls q (k+1) (.slice (some ⟨b,off,none⟩) n c) v6 v7 wr)) (fun _ _ v8 _=>n - (intOf v8).toNat)
 case atStart=>exact ⟨0,by omega,rfl,HR0⟩
 case round =>
  clear HR0;obtain ⟨k,hk,rfl,HR⟩:=hrel;obtain ⟨A6,c6,rfl,hc6⟩:=HR.out.ws.slice;obtain ⟨A7,c7,rfl,hc7⟩:=HR.out.ms.slice;have hz:=HR.out.below.size;have hbox:wr.cell? ⟨w.heap.size,0,none⟩=some (.slice (some ⟨b,off,none⟩) n c):=HR.out.box.cell (by omega);have hgl:=HR.out.box.lt;by_cases hlt:k+1<n
  ·have hq:=HC.out k (by omega)
   have hq2:=HC.out (k+1) (by omega);have hbr:b<wr.heap.size:=by omega
   have x0:=(HR.out.below.cell (p:=⟨b,off+k*4,none⟩) hbB).trans hq.1;have x1:=(HR.out.below.cell (p:=⟨b,off+k*4+1,none⟩) hbB).trans hq.2.1;have x2:=(HR.out.below.cell (p:=⟨b,off+k*4+2,none⟩) hbB).trans hq.2.2.1;have x3:=(HR.out.below.cell (p:=⟨b,off+k*4+3,none⟩) hbB).trans hq.2.2.2;have y0:=(HR.out.below.cell (p:=⟨b,off+(k+1)*4,none⟩) hbB).trans hq2.1;have y1:=(HR.out.below.cell (p:=⟨b,off+(k+1)*4+1,none⟩) hbB).trans hq2.2.1;have y2:=(HR.out.below.cell (p:=⟨b,off+(k+1)*4+2,none⟩) hbB).trans hq2.2.2.1;have y3:=(HR.out.below.cell (p:=⟨b,off+(k+1)*4+3,none⟩) hbB).trans hq2.2.2.2;have i1:IntKind.i64.wrap (k:Int)=(k:Int):=iW (by omega);have i1':IntKind.i64.wrap ((k:Int)+1 - 1)=(k:Int):=by rw [Int.add_sub_cancel]; exact i1
   have i2:(k:Int)<(n:Int):=by omega
   have i3:(k:Int)+1<(n:Int):=by omega
   have i4:(0:Int)<=(k:Int)+1:=by omega
   have i5:((k:Int)+1).toNat=k+1:=by omega
   have i6:(0:Int)<=(k:Int):=by omega
   have i7:(k:Int)<(k:Int)+1:=by omega
   have i8:(k:Int)<((k+1:Nat):Int):=by omega
   have ne1:wr.heap.size ≠ w.heap.size:=by omega
   have ne2:wr.heap.size ≠ b:=by omega
   have HST:Hid (btwA zs k=btw (nth zs (k*4)) (nth zs (k*4+1)) (nth zs (k*4+2)) (nth zs (k*4+3)) (nth zs ((k+1)*4)) (nth zs ((k+1)*4+1)) (nth zs ((k+1)*4+2)) (nth zs ((k+1)*4+3))):=rfl;have hS:stoneB (btw (nth zs (k*4)) (nth zs (k*4+1)) (nth zs (k*4+2)) (nth zs (k*4+3)) (nth zs ((k+1)*4)) (nth zs ((k+1)*4+1)) (nth zs ((k+1)*4+2)) (nth zs ((k+1)*4+3))) 4=true:=by
    have:=HPT.out k (by omega);simp only [pairB,Bool.and_eq_true] at this;exact this.1
   clear hq hq2;obtain ⟨wk,rfl⟩:∃ wk:World,wk=wr:=⟨_,rfl⟩;go_upto_region 6 with fail
   go_cut [9] (fun s9 wx=>∃ gs gq:Nat,s9 = .pointer (some ⟨gs,0,none⟩)/\wk.heap.size<=gs/\Hid (Box wx gs (.slice (some ⟨gq,0,none⟩) 4 4))/\Hid (RecsAt wx wx.heap.size 2 (some ⟨gq,0,none⟩) 4 (btwA zs k))/\Hid (Below wk.heap.size wk wx))
   case first =>
    go_region_held3 (fun w'=>w'.cell? ⟨w.heap.size,0,none⟩=some (.slice (some ⟨b,off,none⟩) n c)/\(w'.cell? ⟨b,off+k*4,none⟩=some (.int .i64 (nth zs (k*4)))/\w'.cell? ⟨b,off+k*4+1,none⟩=some (.int .i64 (nth zs (k*4+1)))/\w'.cell? ⟨b,off+k*4+2,none⟩=some (.int .i64 (nth zs (k*4+2)))/\w'.cell? ⟨b,off+k*4+3,none⟩=some (.int .i64 (nth zs (k*4+3))))/\(w'.cell? ⟨b,off+(k+1)*4,none⟩=some (.int .i64 (nth zs ((k+1)*4)))/\w'.cell? ⟨b,off+(k+1)*4+1,none⟩=some (.int .i64 (nth zs ((k+1)*4+1)))/\w'.cell? ⟨b,off+(k+1)*4+2,none⟩=some (.int .i64 (nth zs ((k+1)*4+2)))/\w'.cell? ⟨b,off+(k+1)*4+3,none⟩=some (.int .i64 (nth zs ((k+1)*4+3))))) (first | exact ⟨hbox,⟨x0,x1,x2,x3⟩,⟨y0,y1,y2,y3⟩⟩ | (refine keepA (by assumption) (fun i => ?_) ?_ <;> first | exact cell_alloc_lt (by first | (simp; done) | (simp; omega) | omega) | exact (cell_alloc_lt (by first | (simp; done) | (simp; omega) | omega)).trans (cell_alloc_lt (by first | (simp; done) | (simp; omega) | omega)).symm | exact hcc _ _ (by first | (simp; done) | (simp; omega) | omega) | exact World.cell?_setCell_far _ _ _ _ (by first | (simp; done) | (simp; omega) | omega))) ((go_at_call 91; refine (sBetween_any _ _ _ _ _ _ _ _ _).mono ?_; rintro e w1 ⟨A1,n1,c1,rfl,ht,_,hb1⟩; obtain ⟨rfl,rfl,gq,rfl,hrq,hgq⟩:=ht hS; rw [hS]; obtain ⟨hcc,hff⟩:=bcell hb1; have k1:=hb1.size; simp at k1; have k2:w1.heap.size ≠ w.heap.size:=(by omega); have k3:w1.heap.size ≠ b:=(by omega)))
    ·go_wp2_with fail
     go_meet
     have hzk:=hb1.size;simp at hzk;have hgl2:=hrq.lt;exact ⟨w1.heap.size,gq,rfl,by omega,q_ (Box.new _ _ _),q_ ((show RowF (w1.alloc _) gq 108 (4*2) (ints (btwA zs k)) from hrq.alloc _).recs rfl),q_ (((below_drewN (Below.refl wk.heap.size wk) 1).trans (hb1.mono (by simp))).alloc (by omega) _)⟩
    ·go_wp2_with fail
     go_meet
     have hzk:=hb1.size;simp at hzk;have hgl2:=hrq.lt;have hrw:=(rowF_new1S wk.drew (.slice none 0 0) 127).after hb1;simp at hgq;exact ⟨wk.heap.size,gq,rfl,by omega,q_ (box_setS _ hrw),q_ ((show RowF (w1.setCell _ _) gq 108 (4*2) (ints (btwA zs k)) from hrq.set_other (by simp; omega) _).recs rfl),q_ ((((below_drewN (Below.refl wk.heap.size wk) 1).alloc (Nat.le_refl _) _).trans (hb1.mono (by simp))).setCell (by simp) _)⟩
   case rest =>
    clear x0 x1 x2 x3 y0 y1 y2 y3 hbox;obtain ⟨gs,gq,rfl,hgs,HBX,HRQ,HBW⟩:=hcut;have HRc:=q_ (HR.out.after HBW.out);clear HR;obtain ⟨g6,o6,rfl,hg6,hc6'⟩:=HRc.out.ws.ints.2 (by omega);obtain ⟨g7,o7,rfl,hg7,hc7'⟩:=HRc.out.ms.ints.2 (by omega);have z6:=hc6' k (by omega);have z7:=hc7' k (by omega);rw [lwL_nth (by omega)] at z6;rw [lmL_nth (by omega)] at z7;have bxc:=HBX.out.1;have hgsl:=HBX.out.2;have hkw:=HKB.out k 0 (by omega);have hkm:=HMB.out k 0 (by omega);have hlw:=HWB.out k;have hlm:=HNB.out k;have e7:IntKind.i64.wrap (leftW zs ls q k+weightI (btwA zs k) 4)=leftW zs ls q k+kwTo zs ls k 0:=by
     have e:weightI (btwA zs k) 4=kwTo zs ls k 0:=(kwTo_0 zs ls k).symm;rw [e]; exact iW (by omega)
    have e8:IntKind.i64.wrap (leftM zs ls q k+overI facX (btwA zs k) 4)=leftM zs ls q k+kmTo zs ls k 0:=by
     have e:overI facX (btwA zs k) 4=kmTo zs ls k 0:=(kmTo_0 zs ls k).symm;rw [e]; exact iW (by omega)
    clear hc6' hc7';go_wp2;go_region_held3 (fun w'=>w'.cell? ⟨g6,o6+k,none⟩=some (.int .i64 (leftW zs ls q k))/\w'.cell? ⟨gs,0,none⟩=some (.slice (some ⟨gq,0,none⟩) 4 4)) (first | exact ⟨z6,bxc⟩ | exact ⟨(hcc _ _ (by simp; omega)).trans z6,(hcc _ _ (by simp; omega)).trans bxc⟩)
     ((go_at_call 92; refine (sWeightOf_any _ _ _ (btwA zs k) _ (by exact HRQ.out) (by omega)).mono ?_; rintro e w1 ⟨rfl,hb1⟩; obtain ⟨hcc,hff⟩:=bcell hb1))
    have HR1:=q_ (HRc.out.drew.after hb1);have HRQ1:=q_ ((show RecsAt wc.drew wc.drew.heap.size _ _ _ _ from HRQ.out).after hb1);have z71:w1.cell? ⟨g7,o7+k,none⟩=some (.int .i64 (leftM zs ls q k)):=(hcc _ _ (by simp; omega)).trans z7
    have bx1:w1.cell? ⟨gs,0,none⟩=some (.slice (some ⟨gq,0,none⟩) 4 4):=(hcc _ _ (by simp; omega)).trans bxc
    have hz1:=hb1.size;simp at hz1;have hl1:gs<w1.heap.size/\g7<w1.heap.size:=by omega
    have l1:=hl1.1;have l2:=hl1.2;clear hcc hff hb1 z6 z7 bxc HRc HRQ hl1;go_wp2;go_region_held3 (fun w'=>w'.cell? ⟨g7,o7+k,none⟩=some (.int .i64 (leftM zs ls q k))/\w'.cell? ⟨gs,0,none⟩=some (.slice (some ⟨gq,0,none⟩) 4 4)) (first | exact ⟨z71,bx1⟩ | exact ⟨(hcc _ _ (by simp; omega)).trans z71,(hcc _ _ (by simp; omega)).trans bx1⟩)
     ((go_at_call 93; refine (sMomentOf_any _ _ _ (btwA zs k) _ (by exact HRQ1.out) (by omega)).mono ?_; rintro e w2 ⟨rfl,hb2⟩; obtain ⟨hcc,hff⟩:=bcell hb2))
    have HR2:=q_ (HR1.out.drew.after hb2);clear hcc hff hb2 z71 bx1 HR1 HRQ1 e7 e8;go_wp2;go_loopw [11,12,13] (fun v11 v12 v13 wr=>∃ i:Nat,i<=q/\v13 = .int .i64 i/\v11 = .int .i64 (leftW zs ls q k+kwTo zs ls k i)/\v12 = .int .i64 (leftM zs ls q k+kmTo zs ls k i)/\Hid (LRel w zs ls q (k+1) (.slice (some ⟨b,off,none⟩) n c) (.slice (some ⟨g6,o6,none⟩) (k+1) c6) (.slice (some ⟨g7,o7,none⟩) (k+1) c7) wr)) (fun _ _ v13 _=>q - (intOf v13).toNat)
    case atStart=>exact ⟨0,Nat.zero_le _,rfl,rfl,rfl,HR2⟩
    case round =>
     clear HR2;obtain ⟨i,hi,rfl,rfl,rfl,HR⟩:=hrel;have hkw:=HKB.out k i hi;have hkm:=HMB.out k i hi;by_cases hli:i<q
     ·obtain ⟨b2,off2,rfl,hb2B,hc2⟩:=HLD.out.2 (by omega)
      have hlc:=ldCells hc2 hli;have x0:=(HR.out.below.cell (p:=⟨b2,off2+i*3,none⟩) hb2B).trans hlc.1;have x1:=(HR.out.below.cell (p:=⟨b2,off2+i*3+1,none⟩) hb2B).trans hlc.2.1;have x2:=(HR.out.below.cell (p:=⟨b2,off2+i*3+2,none⟩) hb2B).trans hlc.2.2;have hlo:=loadAt_out (HLA.out i hli);have hkw2:=HKB.out k (i+1) (by omega);have hkm2:=HMB.out k (i+1) (by omega);have hwx:=wx_bd hlo.2.1 hlo.2.2;have ii1:(i:Int)<(q:Int):=by omega
      have ii0:(0:Int)<=(i:Int):=by omega
      clear hlc hc2;by_cases hs:nth ls (i*3)=(k:Int)
      ·have HW:=q_ (kwTo_t zs hs)
       have HM:=q_ (kmTo_t zs hs);have hd:(nth ls (i*3) == (k:Int))=true:=by simp [hs]
       have e4:IntKind.i64.wrap (nth ls (i*3+1)*nth ls (i*3+2))=nth ls (i*3+1)*nth ls (i*3+2):=iW (by omega);have e3:IntKind.i64.wrap (leftW zs ls q k+kwTo zs ls k i+nth ls (i*3+1))=leftW zs ls q k+kwTo zs ls k (i+1):=by
        have h:=HW.out;rw [h,<- Int.add_assoc];exact iW (by omega)
       have e5:IntKind.i64.wrap (leftM zs ls q k+kmTo zs ls k i+nth ls (i*3+1)*nth ls (i*3+2))=leftM zs ls q k+kmTo zs ls k (i+1):=by
        have h:=HM.out;rw [h,<- Int.add_assoc];exact iW (by omega)
       have HE:Hid (leftW zs ls q k+kwTo zs ls k i+nth ls (i*3+1)=leftW zs ls q k+kwTo zs ls k (i+1)):=by
        have h:=HW.out;show _=_
        omega
       clear hs hlo hkw hkm hkw2 hkm2 hlw hlm hwx;go_wp2;go_quiet (fail)
       go_wp2;go_roundw
       case rel=>exact ⟨i+1,by omega,by go_num,by first | rfl | rw [HE.out],by rfl,q_ (HR.out.drewN _)⟩
       case measure=>simp [intOf]; omega
      ·have HW:=q_ (kwTo_f zs hs)
       have HM:=q_ (kmTo_f zs hs);have hd:(nth ls (i*3) == (k:Int))=false:=by simp [hs]
       clear hs hlo hkw hkm hkw2 hkm2 hlw hlm hwx;go_wp2;go_roundw
       case rel=>exact ⟨i+1,by omega,by go_num,by rw [HW.out],by rw [HM.out],HR⟩
       case measure=>simp [intOf]; omega
     ·obtain rfl:q=i:=by omega
      have HSW:=q_ (lwL_step zs ls q k);have HSM:=q_ (lmL_step zs ls q k);have hz2:=HR.out.below.size;generalize leftW zs ls q k+kwTo zs ls k q=nw at *
      generalize leftM zs ls q k+kmTo zs ls k q=nm at *
      have HB1:=q_ (HR.out.below.alloc hz2 (.cells #[.int .i64 nw] 3));have hcn:∀ i,i<1*1->(wr.alloc (.cells #[.int .i64 nw] 3)).cell? ⟨wr.heap.size,i,none⟩=some (.int .i64 (nth [nw] i)):=fun i hi=>by
       obtain rfl:i=0:=by omega
       exact cell_new1 _ _ _
      have HCN:=q_ hcn;clear hcn;have hbxl:=HR.out.box.lt;have HBXA:=q_ (HR.out.box.alloc (.cells #[.int .i64 nw] 3));go_wp2_with (first
       | (at_builtin; refine wpList_appZ2 _ rfl (.tmp 88) (.tmp 90) 38 rfl (w.heap.size+1) 3 1 8 (.int .i64 0) Tryzx.underlying38 infoInt rfl (by decide) (by decide) _ (k+1) (lwL zs ls q (k+1)) rfl (by exact HR.out.ws.alloc _) wr.heap.size 1 1 [nw] rfl rfl (by exact HCN.out) (by omega) w.heap.size w (by exact HB1.out) (by omega) (by simp; omega) _ HSW.out _ _ _ (by exact HR.out.ms.alloc _) HR.out.apart ?_ (by omega); intro g' cap' w3 hown3 hb3 hoth3 hap3 hrow3; have hcn3:∀ i,i<1*1->(w3.alloc (.cells #[.int .i64 nm] 3)).cell? ⟨w3.heap.size,i,none⟩=some (.int .i64 (nth [nm] i)):=(fun i hi=>by obtain rfl:i=0:=(by omega); exact cell_new1 _ _ _); have HCN3:=q_ hcn3; have hbx3:=hrow3 _ _ _ _ (by decide) HBXA.out; have hbx3l:=hbx3.lt; clear hcn3 hrow3)
       | (at_builtin; refine wpList_appZ2 _ rfl (.tmp 92) (.tmp 94) 38 rfl (w.heap.size+1) 3 1 8 (.int .i64 0) Tryzx.underlying38 infoInt rfl (by decide) (by decide) _ (k+1) (lmL zs ls q (k+1)) rfl (by exact hoth3.alloc _) w3.heap.size 1 1 [nm] rfl rfl (by exact HCN3.out) (by omega) w.heap.size w (by exact hb3.alloc hb3.size _) (by omega) (by simp; omega) _ HSM.out _ _ _ (by exact hown3.alloc _) hap3.symm ?_ (by omega); intro g4 cap4 w4 hown4 hb4 hoth4 hap4 hrow4))
      have HR4:Hid (LRel w zs ls q (k+1+1) (.slice (some ⟨b,off,none⟩) n c) (.slice (some ⟨g',0,none⟩) (k+1+1) cap') (.slice (some ⟨g4,0,none⟩) (k+1+1) cap4) w4) :=
       ⟨hoth4,hown4,hap4.symm,hrow4 _ _ _ _ (by decide) (hbx3.alloc _),hb4⟩
      clear hown3 hb3 hoth3 hap3 hown4 hb4 hoth4 hap4 hrow4 hbx3;go_wp2;go_roundw
      case rel=>exact ⟨k+1,by omega,by go_num,HR4⟩
      case measure=>simp [intOf]; omega
  ·obtain rfl:n=k+1:=by omega
   go_wp2;go_ret2;exact ⟨_,_,_,_,rfl,HR.out.ws,HR.out.ms,HR.out.below⟩
theorem sLeft_any (A:Option Addr) (n c:Nat) (zs:List Int) (B:Option Addr) (q d:Nat) (ls:List Int) (w:World) (h:RecsAt w w.heap.size 4 A n zs) (hl:RecsAt w w.heap.size 3 B q ls) (hL:loadsB zs n ls q=true) :
  Calls Tryzx.prog 67 #[.agg #[.slice A n c],.slice B q d] w (LeftPost w zs ls q n) :=
 (sLeftO_any A n c zs B q d ls w h hl hL).mono fun _ _ ⟨A6,c6,A7,c7,e,h6,h7,hb⟩=>⟨A6,c6,A7,c7,e,h6.ints,h7.ints,hb⟩
end X
namespace X
open Go.RowKit
def rowsN (zs:List Int) (n:Nat) (ls:List Int) (q:Nat):Nat:=if loadsB zs n ls q=true then n*2+1 else 0
def rowsZ (zs:List Int) (n:Nat) (ls:List Int) (q:Nat):List Int:=if loadsB zs n ls q=true then rowsL zs (leftW zs ls q) (leftM zs ls q) n else []
section
variable {zs : List Int} {n : Nat} {ls : List Int} {q : Nat}
theorem rows_t (h:loadsB zs n ls q=true):rowsN zs n ls q=n*2+1/\rowsZ zs n ls q=rowsL zs (leftW zs ls q) (leftM zs ls q) n:=by simp [rowsN,rowsZ,h]
theorem rows_f (h:loadsB zs n ls q=false):rowsN zs n ls q=0/\rowsZ zs n ls q = []:=by simp [rowsN,rowsZ,h]
theorem wmok_left (h:loadsB zs n ls q=true):WMok (leftW zs ls q) (leftM zs ls q) n:=by
 obtain ⟨hA,hq,hl⟩:=loadsB_out h;have hn:=(archB_out hA).1;intro k hk;have h1:=leftW_bd zs hl hq k;have h2:=leftM_bd zs hl hq k;omega
end
structure RSp (w wr:World) (va:Value) (g6 g7:Nat) (zs ls:List Int) (q n k:Nat) (v5:Value):Prop where
 arch:RowF wr w.heap.size 45 1 (fun _=>va)
 ws:RowF wr g6 3 n (ints (lwL zs ls q n))
 ms:RowF wr g7 3 n (ints (lmL zs ls q n))
 own:OwnR wr (w.heap.size+1) 133 4 v5 (k*2) (rowTo zs (leftW zs ls q) (leftM zs ls q) k)
 below:Below w.heap.size w wr
theorem rowF1 (w:World) (u:Value) (T:TypeId):RowF (w.alloc (.cells #[u] T)) w.heap.size T 1 (fun _=>u):=RowF.of_row (World.rowIs_alloc w #[u] T (fun _=>u) (fun i hi=>by simp at hi; subst hi; rfl))
theorem rowC_new2 (w:World) (a b:Int) (T:TypeId):RowF (w.alloc (.cells #[.int .i64 a,.int .i64 b] T)) w.heap.size T 2 (ints [a,b]) :=
 RowF.of_row (World.rowIs_alloc w #[.int .i64 a,.int .i64 b] T _ (fun j hj=>by simp at hj; match j,hj with | 0,_=>rfl | 1,_=>rfl))
theorem sRowsOf_any (A:Option Addr) (n c:Nat) (zs:List Int) (B:Option Addr) (q d:Nat) (ls:List Int) (w:World) (h:RecsAt w w.heap.size 4 A n zs) (hn:n<=1048576) (hl:RecsAt w w.heap.size 3 B q ls) (hq:q<=1048576) :
  Calls Tryzx.prog 69 #[.agg #[.slice A n c],.slice B q d] w (RowsPost w (rowsN zs n ls q) (rowsZ zs n ls q)):=by
 have hs0:(w.alloc (.cells #[.slice A n c] 45)).heap.size=w.heap.size+1:=World.size_alloc _ _;have b0:Below w.heap.size w ((w.alloc (.cells #[.slice A n c] 45)).alloc (.cells #[] 133)):=(bnw _ _).alloc (by simp) _;have h1:=h.after b0;have l1:=hl.after b0;have r0:=(rowF1 w (.slice A n c) 45).alloc (.cells #[] 133);have a0:=r0.cell (i:=0) (by omega);have o0:OwnR ((w.alloc (.cells #[.slice A n c] 45)).alloc (.cells #[] 133)) (w.heap.size+1) 133 4 (.slice (some ⟨w.heap.size+1,0,none⟩) 0 0) 0 []:=by
  have h:=OwnR.new (w.alloc (.cells #[.slice A n c] 45)) 133 4;rw [hs0] at h;exact h
 have HB0:=q_ b0;have HO0:=q_ o0;have HR0:=q_ r0;cases hL:loadsB zs n ls q
 ·have HF:=q_ (rows_f hL)
  clear b0 o0 r0 hs0 h hl;go_enter Tryzx.func69,Tryz.ntmps69;go_wp2_with fail
  refine (sLoadsOk_any _ _ _ zs _ _ _ ls _ h1 hn l1 hq).mono ?_;rw [hL];rintro e w1 ⟨rfl,hb1⟩;have HO1:=q_ (HO0.out.below hb1);have HB1:=q_ (HB0.out.trans (hb1.mono HB0.out.size));clear hb1;go_wp2;go_ret;exact ⟨_,rfl,by rw [HF.out.1,HF.out.2]; exact HO1.out.weaken (by omega),HB1.out⟩
 ·have HT:=q_ (rows_t hL)
  have hA:=(loadsB_out hL).1;have hn8:=(archB_out hA).1;have hwm:=wmok_left hL;have HJB:=q_ (fun k (hk:k<n)=>jBd_of hA hwm hk);have HOK:=q_ (fun i (hi:i<n*2+1)=>rowsL_ok hA hwm i hi);obtain ⟨b,off,rfl,hbB,hcell⟩:=h.2 (by omega);have HC:=q_ (fun j (hj:j<n)=>jtCells hcell hj);clear b0 o0 r0 hs0 h hl hcell hA hwm;go_enter Tryzx.func69,Tryz.ntmps69;go_wp2_with fail
  refine (sLoadsOk_any _ _ _ zs _ _ _ ls _ h1 hn l1 hq).mono ?_;rw [hL];rintro e w1 ⟨rfl,hb1⟩;have HO1:=q_ (HO0.out.below hb1);have HB1:=q_ (HB0.out.trans (hb1.mono HB0.out.size));have HR1:=q_ (HR0.out.after hb1);have h2:=h1.after hb1;have l2:=l1.after hb1;have a1:=HR1.out.cell (i:=0) (by omega);clear hb1 h1 l1 HO0 HB0 HR0 a0;go_wp2_with fail
  refine (sLeftO_any _ _ _ zs _ _ _ ls _ h2 l2 hL).mono ?_;rintro e W2 ⟨A6,c6,A7,c7,rfl,hi6,hi7,hb2⟩;obtain ⟨g6,rfl,hg6,hr6⟩:=hi6.rowInts (by omega);obtain ⟨g7,rfl,hg7,hr7⟩:=hi7.rowInts (by omega);have HST:Hid (RSp w W2 (.slice (some ⟨b,off,none⟩) n c) g6 g7 zs ls q n 0 (.slice (some ⟨w.heap.size+1,0,none⟩) 0 0)):=⟨HR1.out.after hb2,hr6,hr7,HO1.out.below hb2,HB1.out.trans (hb2.mono HB1.out.size)⟩;clear hi6 hi7 hb2 h2 l2 a1 hr6 hr7 HO1 HB1 HR1;go_wp2;go_loopw [5,8] (fun v5 v8 wr=>∃ (k:Nat),k<=n/\v8 = .int .i64 k/\Hid (RSp w wr (.slice (some ⟨b,off,none⟩) n c) g6 g7 zs ls q n k v5)) (fun _ v8 _=>n - (intOf v8).toNat)
  case atStart=>exact ⟨0,Nat.zero_le _,rfl,HST⟩
  case round =>
   clear HST;obtain ⟨k,hk,rfl,HR⟩:=hrel;have hz:=HR.out.below.size;have a0:wr.cell? ⟨w.heap.size,0,none⟩=some (.slice (some ⟨b,off,none⟩) n c):=HR.out.arch.cell (by omega);have hal:=HR.out.arch.lt;by_cases hlt:k<n
   ·have ki:(k:Int)<(n:Int):=by omega
    have k0:(0:Int)<=(k:Int):=by omega
    have hq:=HC.out k hlt;have x0:wr.cell? ⟨b,off+k*4,none⟩=some (.int .i64 (nth zs (k*4))):=(HR.out.below.cell (by exact hbB)).trans hq.1;have x1:wr.cell? ⟨b,off+k*4+1,none⟩=some (.int .i64 (nth zs (k*4+1))):=(HR.out.below.cell (by exact hbB)).trans hq.2.1;have x2:wr.cell? ⟨b,off+k*4+2,none⟩=some (.int .i64 (nth zs (k*4+2))):=(HR.out.below.cell (by exact hbB)).trans hq.2.2.1;have x3:wr.cell? ⟨b,off+k*4+3,none⟩=some (.int .i64 (nth zs (k*4+3))):=(HR.out.below.cell (by exact hbB)).trans hq.2.2.2;have HX:Hid (rowTo zs (leftW zs ls q) (leftM zs ls q) k ++ [nth zs (k*4+1),-nth zs (k*4),1,leftM zs ls q k - nth zs (k*4)*leftW zs ls q k,-nth zs (k*4+3),nth zs (k*4+2),-1,nth zs (k*4+2)*leftW zs ls q k - leftM zs ls q k]=rowTo zs (leftW zs ls q) (leftM zs ls q) (k+1)):=rfl;obtain ⟨e1,e2,e3,e4,e5,e6⟩:=jWraps (HJB.out k hlt);have z6:wr.cell? ⟨g6,k,none⟩=some (.int .i64 (leftW zs ls q k)):=by
     have h:=HR.out.ws.cell hlt;rw [ints_def,lwL_nth hlt] at h;exact h
    have z7:wr.cell? ⟨g7,k,none⟩=some (.int .i64 (leftM zs ls q k)):=by
     have h:=HR.out.ms.cell hlt;rw [ints_def,lmL_nth hlt] at h;exact h
    have HW6:=q_ (lwL_nth (zs:=zs) (ls:=ls) (q:=q) hlt);have HM7:=q_ (lmL_nth (zs:=zs) (ls:=ls) (q:=q) hlt);have g6l:=HR.out.ws.lt;have g7l:=HR.out.ms.lt;have HO:=q_ HR.out.own;have HAr:=q_ HR.out.arch;have HWs:=q_ HR.out.ws;have HMs:=q_ HR.out.ms;have HBl:=q_ HR.out.below;clear hq HR;generalize leftW zs ls q k=lw at *
    generalize leftM zs ls q k=lm at *
    generalize nth zs (k*4)=ix at *
    generalize nth zs (k*4+1)=iy at *
    generalize nth zs (k*4+2)=ox at *
    generalize nth zs (k*4+3)=oy at *
    have hbl:b<wr.heap.size:=by omega
    have HU:=q_ (show Below (w.heap.size+1) wr ((wr.alloc (.cells #[.int .i64 ix,.int .i64 iy] 108)).alloc (.cells #[.int .i64 ox,.int .i64 oy] 108)) from ((Below.refl (w.heap.size+1) wr).alloc (by omega) _).alloc (by simp; omega) _)
    have p0:=(rowC_new2 wr ix iy 108).alloc (.cells #[.int .i64 ox,.int .i64 oy] 108);have p1:RowF ((wr.alloc (.cells #[.int .i64 ix,.int .i64 iy] 108)).alloc (.cells #[.int .i64 ox,.int .i64 oy] 108)) (wr.heap.size+1) 108 2 (ints [ox,oy]):=by
     have h:=rowC_new2 (wr.alloc (.cells #[.int .i64 ix,.int .i64 iy] 108)) ox oy 108;rw [World.size_alloc] at h;exact h
    have P0:=q_ p0;have P1:=q_ p1;have HOA:=q_ ((HO.out.alloc (.cells #[.int .i64 ix,.int .i64 iy] 108)).alloc (.cells #[.int .i64 ox,.int .i64 oy] 108));have HAA:=q_ ((HAr.out.alloc (.cells #[.int .i64 ix,.int .i64 iy] 108)).alloc (.cells #[.int .i64 ox,.int .i64 oy] 108));have HWA:=q_ ((HWs.out.alloc (.cells #[.int .i64 ix,.int .i64 iy] 108)).alloc (.cells #[.int .i64 ox,.int .i64 oy] 108));have HMA:=q_ ((HMs.out.alloc (.cells #[.int .i64 ix,.int .i64 iy] 108)).alloc (.cells #[.int .i64 ox,.int .i64 oy] 108));have HBA:=q_ (show Below w.heap.size w ((wr.alloc (.cells #[.int .i64 ix,.int .i64 iy] 108)).alloc (.cells #[.int .i64 ox,.int .i64 oy] 108)) from (HBl.out.alloc hz _).alloc (by simp; omega) _)
    have hww:wr.heap.size+2=((wr.alloc (.cells #[.int .i64 ix,.int .i64 iy] 108)).alloc (.cells #[.int .i64 ox,.int .i64 oy] 108)).heap.size:=by simp
    have HWW:=q_ hww;clear p0 p1 hww;have HZ6:=q_ ((show ∀ g i,g<wr.heap.size->((wr.alloc (.cells #[.int .i64 ix,.int .i64 iy] 108)).alloc (.cells #[.int .i64 ox,.int .i64 oy] 108)).cell? ⟨g,i,none⟩=wr.cell? ⟨g,i,none⟩ from fun g i hg=>World.cell?_of_block (a:=⟨g,i,none⟩) ((bnw _ _).alloc (by simp) _ |>.block g hg)) g6 k g6l |>.trans z6);have HZ7:=q_ ((show ∀ g i,g<wr.heap.size->((wr.alloc (.cells #[.int .i64 ix,.int .i64 iy] 108)).alloc (.cells #[.int .i64 ox,.int .i64 oy] 108)).cell? ⟨g,i,none⟩=wr.cell? ⟨g,i,none⟩ from fun g i hg=>World.cell?_of_block (a:=⟨g,i,none⟩) ((bnw _ _).alloc (by simp) _ |>.block g hg)) g7 k g7l |>.trans z7);clear z6 z7;go_upto_region 10 with fail
    generalize hwx:((wr.alloc (.cells #[.int .i64 ix,.int .i64 iy] 108)).alloc (.cells #[.int .i64 ox,.int .i64 oy] 108))=wx at *
    have z6:=HZ6.out;have z7:=HZ7.out;have c0:=P0.out.cell (i:=0) (by omega);have c1:=P0.out.cell (i:=1) (by omega);have d0:=P1.out.cell (i:=0) (by omega);have d1:=P1.out.cell (i:=1) (by omega);simp only [ints_def] at c0 c1 d0 d1;have hwz:=HWW.out;clear x0 x1 x2 x3 a0 hwx;refine wp_region_held_drew (S:=fun w'=>(w'.cell? ⟨wr.heap.size,0,none⟩=some (.int .i64 ix)/\w'.cell? ⟨wr.heap.size,1,none⟩=some (.int .i64 iy))/\(w'.cell? ⟨wr.heap.size+1,0,none⟩=some (.int .i64 ox)/\w'.cell? ⟨wr.heap.size+1,1,none⟩=some (.int .i64 oy))/\w'.cell? ⟨g6,k,none⟩=some (.int .i64 lw)/\w'.cell? ⟨g7,k,none⟩=some (.int .i64 lm)) (by kernel_rfl) (by exact ⟨⟨c0,c1⟩,⟨d0,d1⟩,z6,z7⟩) (fun hHeld => ?_);refine tk 0 43 rfl rfl ?_;try simp only [Act.put,ly3]
    refine tk 1 44 rfl rfl ?_;try simp only [Act.put,ly3]
    refine tk 2 45 rfl rfl ?_;try simp only [Act.put,ly3]
    refine tk 3 46 rfl rfl ?_;try simp only [Act.put,ly3]
    refine tk 4 47 rfl rfl ?_;try simp only [Act.put,ly3]
    refine tk 5 48 rfl rfl ?_;try simp only [Act.put,ly3]
    refine tk 6 49 rfl rfl ?_;try simp only [Act.put,ly3]
    refine tk 7 50 rfl rfl ?_;try simp only [Act.put,ly3]
    refine tk 8 51 rfl rfl ?_;try simp only [Act.put,ly3]
    refine tk 9 52 rfl rfl ?_;try simp only [Act.put,ly3]
    refine tk 10 53 rfl rfl ?_;try simp only [Act.put,ly3]
    refine tk 11 54 rfl rfl ?_;try simp only [Act.put,ly3]
    refine tk 12 55 rfl rfl ?_;try simp only [Act.put,ly3]
    refine tk 13 56 rfl rfl ?_;try simp only [Act.put,ly3]
    refine tk 14 57 rfl rfl ?_;try simp only [Act.put,ly3]
    refine tk 15 58 rfl rfl ?_;try simp only [Act.put,ly3]
    refine tk 16 59 rfl rfl ?_;try simp only [Act.put,ly3]
    refine tk 17 60 rfl rfl ?_;try simp only [Act.put,ly3]
    refine tk 18 61 rfl rfl ?_;try simp only [Act.put,ly3]
    refine tk 19 62 rfl rfl ?_;try simp only [Act.put,ly3]
    refine tk 20 63 rfl rfl ?_;try simp only [Act.put,ly3]
    refine tk 21 64 rfl rfl ?_;try simp only [Act.put,ly3]
    refine tk 22 65 rfl rfl ?_;try simp only [Act.put,ly3]
    refine tk 23 66 rfl rfl ?_;try simp only [Act.put,ly3]
    refine tk 24 67 rfl rfl ?_;try simp only [Act.put,ly3]
    refine tk 25 68 rfl rfl ?_;try simp only [Act.put,ly3]
    refine tk 26 69 rfl rfl ?_;try simp only [Act.put,ly3]
    refine tk 27 70 rfl rfl ?_;try simp only [Act.put,ly3]
    refine tk 28 71 rfl rfl ?_;try simp only [Act.put,ly3]
    refine tk 29 72 rfl rfl ?_;try simp only [Act.put,ly3]
    refine tk 30 73 rfl rfl ?_;try simp only [Act.put,ly3]
    refine tk 31 74 rfl rfl ?_;try simp only [Act.put,ly3]
    refine tk 32 75 rfl rfl ?_;try simp only [Act.put,ly3]
    refine tk 33 76 rfl rfl ?_;try simp only [Act.put,ly3]
    refine tk 34 77 rfl rfl ?_;try simp only [Act.put,ly3]
    refine tk 35 78 rfl rfl ?_;try simp only [Act.put,ly3]
    refine tk 36 79 rfl rfl ?_;try simp only [Act.put,ly3]
    refine rd1 37 rfl fun K hK=>?_;go_simp
    skip
    refine hK.out _ _ (by exact ⟨⟨(P0.out.drew.alloc _).cell (i:=0) (by omega),(P0.out.drew.alloc _).cell (i:=1) (by omega)⟩,⟨(P1.out.drew.alloc _).cell (i:=0) (by omega),(P1.out.drew.alloc _).cell (i:=1) (by omega)⟩,(World.cell?_alloc_lt wx.drew _ ⟨g6,k,none⟩ (by simp; omega)).trans z6,(World.cell?_alloc_lt wx.drew _ ⟨g7,k,none⟩ (by simp; omega)).trans z7⟩) (fun hHeld => ?_)
    clear hK K;try simp only [Act.put,ly3]
    refine rd1 38 rfl fun K hK=>?_;refine step_appRT rfl (.tmp 43) (.tmp 80) 103 rfl (w.heap.size+1) 133 4 32 #[.int .i64 0,.int .i64 0,.int .i64 0,.int .i64 0] Tryzx.underlying103 infoRow rfl (by decide) (by decide) _ (k*2) _ rfl (by exact HOA.out.drewN 1 |>.alloc _) wx.heap.size 2 2 [iy,-ix,1,lm - ix*lw,-oy,ox,-1,ox*lw - lm] rfl rfl (by exact fun i hi=>(rowC_new8 wx.drew iy (-ix) 1 (lm - ix*lw) (-oy) ox (-1) (ox*lw - lm) 133).cell hi) (by omega) (w.heap.size+1) wr (by exact (HU.out.drew).alloc (by simp; omega) _) (by omega) (by simp; omega) _ HX.out (by omega) ?_; intro g' cap' w3 hown3 hb3 hrow3; have y6:w3.cell? ⟨g6,k,none⟩=some (.int .i64 lw):=(by have h:=(hrow3 _ _ _ _ (by decide) (HWA.out.drew.alloc _)).cell hlt; rw [ints_def,HW6.out] at h; exact h); have y7:w3.cell? ⟨g7,k,none⟩=some (.int .i64 lm):=(by have h:=(hrow3 _ _ _ _ (by decide) (HMA.out.drew.alloc _)).cell hlt; rw [ints_def,HM7.out] at h; exact h);refine hK.out _ _ (by exact ⟨⟨(hrow3 _ _ _ _ (by decide) (P0.out.drew.alloc _)).cell (i:=0) (by omega),(hrow3 _ _ _ _ (by decide) (P0.out.drew.alloc _)).cell (i:=1) (by omega)⟩,⟨(hrow3 _ _ _ _ (by decide) (P1.out.drew.alloc _)).cell (i:=0) (by omega),(hrow3 _ _ _ _ (by decide) (P1.out.drew.alloc _)).cell (i:=1) (by omega)⟩,y6,y7⟩) (fun hHeld => ?_);clear hK K;try simp only [Act.put,ly3]
    refine tk 39 5 rfl rfl ?_;try simp only [Act.put,ly3]
    refine wpAnyH_done (by kernel_rfl) ?_ _;have HR3:Hid (RSp w w3 (.slice (some ⟨b,off,none⟩) n c) g6 g7 zs ls q n (k+1) (.slice (some ⟨g',0,none⟩) (k*2+2) cap')) :=
     ⟨HAr.out.below hb3 (by omega),hrow3 _ _ _ _ (by decide) (HWA.out.drew.alloc _),hrow3 _ _ _ _ (by decide) (HMA.out.drew.alloc _),by rw [show (k+1)*2=k*2+2 by omega]; exact hown3,HBl.out.trans (hb3.mono (by omega))⟩
    clear hown3 hb3 hrow3 y6 y7;go_wp2;go_roundw
    case rel=>exact ⟨k+1,by omega,by go_num,HR3⟩
    case measure=>simp [intOf]; omega
   ·obtain rfl:n=k:=by omega
    have HU:Hid (rowTo zs (leftW zs ls q) (leftM zs ls q) n ++ [-1,0,0,0]=rowsL zs (leftW zs ls q) (leftM zs ls q) n):=rfl;have HO:=q_ (HR.out.own.alloc (.cells #[.int .i64 (-1),.int .i64 0,.int .i64 0,.int .i64 0] 133));have HBA:=q_ (HR.out.below.alloc hz (.cells #[.int .i64 (-1),.int .i64 0,.int .i64 0,.int .i64 0] 133));have HCN:Hid (∀ i,i<1*4->(wr.alloc (.cells #[.int .i64 (-1),.int .i64 0,.int .i64 0,.int .i64 0] 133)).cell? ⟨wr.heap.size,i,none⟩=some (.int .i64 (nth [-1,0,0,0] i))):=fun i hi=>(rowC_new4 wr (-1) 0 0 0 133).cell hi
    go_wp2_with (at_builtin; refine wpList_appR _ rfl (.tmp 82) (.tmp 84) 103 rfl (w.heap.size+1) 133 4 32 #[.int .i64 0,.int .i64 0,.int .i64 0,.int .i64 0] Tryzx.underlying103 infoRow rfl (by decide) (by decide) _ (n*2) _ rfl (by exact HO.out) wr.heap.size 1 1 [-1,0,0,0] rfl rfl (by exact HCN.out) (by omega) w.heap.size w (by exact HBA.out) (by omega) (by simp; omega) _ HU.out ?_ (by omega); intro g' cap' w3 hown3 hb3);have HO3:=q_ hown3;have HB3:=q_ hb3;generalize hrs:rowsL zs (leftW zs ls q) (leftM zs ls q) n=rs at *
    have HRS:=q_ hrs;clear hown3 hb3 HU HO HBA HCN HR a0 hrs;go_wp2;go_loopw [11] (fun v11 wr=>∃ (j:Nat),j<=n*2+1/\v11 = .int .i64 j/\Hid (OwnR wr (w.heap.size+1) 133 4 (.slice (some ⟨g',0,none⟩) (n*2+1) cap') (n*2+1) rs)/\Hid (Below w.heap.size w wr)) (fun v11 _=>n*2+1 - (intOf v11).toNat)
    case atStart=>exact ⟨0,Nat.zero_le _,rfl,HO3,HB3⟩
    case round =>
     clear HO3 HB3;obtain ⟨j,hj,rfl,HO,HB⟩:=hrel;by_cases hjl:j<n*2+1
     ·obtain ⟨b',off',e,hbl',hc⟩:=HO.out.recs.2 (by omega)
      simp at e;obtain ⟨rfl,rfl⟩:=e;obtain ⟨x0,x1,x2,x3⟩:=rwCells hc hjl;simp only [Nat.zero_add] at x0 x1 x2 x3;have hok:rowB (nth rs (j*4)) (nth rs (j*4+1)) (nth rs (j*4+2)) (nth rs (j*4+3))=true:=HOK.out j hjl;have ji:(j:Int)<(((n*2+1:Nat)):Int):=by omega
      have j0:(0:Int)<=(j:Int):=by omega
      clear hc;generalize nth rs (j*4)=y0 at *
      generalize nth rs (j*4+1)=y1 at *
      generalize nth rs (j*4+2)=y2 at *
      generalize nth rs (j*4+3)=y3 at *
      go_wp2_with fail
      refine (sRowOk_any _ _ _ _ _).mono ?_;rw [hok];rintro e w4 ⟨rfl,hb4⟩;have HO4:=q_ (HO.out.below hb4);have HB4:=q_ (HB.out.trans (hb4.mono HB.out.size));clear hb4;go_wp2;go_roundw
      case rel=>exact ⟨j+1,by omega,by go_num,HO4,HB4⟩
      case measure=>first | (simp [intOf]; done) | (simp [intOf]; omega)
     ·obtain rfl:j=n*2+1:=by omega
      go_wp2;go_ret;exact ⟨_,rfl,by rw [HT.out.1,HT.out.2]; exact HO.out.weaken (by omega),HB.out⟩
end X
end Go.Proofs.YtjcgklifabcfkaaGreat
