/-
  Texts that the law stands on, part 3.
-/
import Derived.Test.YtpblihmhpalkfaaGreatCracksP1
import Derived.Test.YtpblihmhpalkfaaGreatCracksP2
import Derived.Test.YtpblihmhpalkfaaGreatJ10
import Derived.Test.YtpblihmhpalkfaaGreatJ17
import Derived.Test.YtpblihmhpalkfaaGreatJ18
import Derived.Test.YtpblihmhpalkfaaGreatJ20
import Derived.Test.YtpblihmhpalkfaaGreatJ21
set_option maxRecDepth 100000
set_option linter.unusedVariables false
set_option linter.unusedSimpArgs false
namespace Go.Proofs.YtpblihmhpalkfaaGreat
namespace X
open Go.RowKit
def PickPost (w:World) (g:Nat) (A:Option Addr) (n c:Nat) (e:Ending) (w':World):Prop :=
 ∃ x:Int,e = .returned (.int .i64 x)∧CurAt w' g A n c∧Only g w w'
set_option maxRecDepth 100000 in
set_option maxHeartbeats 1600000 in
theorem l01PickInt_any (g:Nat) (A:Option Addr) (n c:Nat) (zs:List Int) (p m d:Nat) (L:List Int) (w:World) (h:BytesAt w g A n zs) (hn:n≤1048576) (hc:CurAt w g A n c) (hp:p ≠ g) (hr:RowF w p 3 m (ints L)) (h0:0<m) (h1:m≤256) :
  Calls Tryzx.prog 119 #[.pointer (some ⟨g,0,none⟩),.slice (some ⟨p,0,none⟩) m d] w (PickPost w g A n c):=by
 have HR:=Lib.hid hr;have HP:=Lib.hid hp;clear hr hp;go_enter Tryzx.func119,Tryz.ntmps119;go_wp2_with fail
 refine (l01Below_any g A n c zs (m:Int) _ h hn hc (by omega) (by omega)).mono ?_;rintro e w1 ⟨x,rfl,x0,x1,hc1,ho1⟩;obtain ⟨i,rfl⟩:=Int.eq_ofNat_of_zero_le x0;have y0:w1.cell? ⟨p,i,none⟩=some (.int .i64 (nth L i)):=(HR.out.only ho1 HP.out).cell (i:=i) (by omega);have HC:=Lib.hid hc1;have HO:=Lib.hid ho1;clear hc1 ho1 h hc;go_wp2;go_ret;exact ⟨_,rfl,HC.out,HO.out⟩
structure LdSt (w wr:World) (g:Nat) (A:Option Addr) (n c:Nat) (zs:List Int) (b m d:Nat) (Z:List Int) (v:Value) (k:Nat) (L:List Int):Prop where
 box:RowF wr w.heap.size 26 1 (fun _ => .slice (some ⟨b,0,none⟩) m d)
 row:RowF wr b 45 (m*4) (ints Z)
 own:OwnR wr (w.heap.size+1) 154 3 v k L
 far:g<b∧b<w.heap.size
 cur:CurAt wr g A n c
 code:BytesAt wr g A n zs
 below:Below g w wr
 keep:KeepB g w.heap.size w wr
section
variable {w wr w' : World} {g : Nat} {A : Option Addr} {n c : Nat} {zs : List Int} {b m d : Nat} {Z : List Int} {v : Value} {k : Nat} {L : List Int}
theorem LdSt.only (h:LdSt w wr g A n c zs b m d Z v k L) (ho:Only g wr w') (hc:CurAt w' g A n c):LdSt w w' g A n c zs b m d Z v k L :=
 ⟨h.box.only ho (by have:=h.far; omega),h.row.only ho (by have:=h.far; omega),h.own.onlyB ho (by have:=h.far; omega),h.far,hc,h.code.only ho (Nat.le_refl _),h.below.trans (ho.below (Nat.le_refl _)),h.keep.only ho⟩
theorem LdSt.after (h:LdSt w wr g A n c zs b m d Z v k L) (hb:Below wr.heap.size wr w'):LdSt w w' g A n c zs b m d Z v k L :=
 ⟨h.box.after hb,h.row.after hb,h.own.below hb,h.far,h.cur.after hb,h.code.below (hb.mono (by have:=h.far; have:=h.below.size; omega)),h.below.trans (hb.mono (by have:=h.far; have:=h.below.size; omega)),h.keep.belowB hb h.below.size⟩
theorem LdSt.drew (h:LdSt w wr g A n c zs b m d Z v k L):LdSt w wr.drew g A n c zs b m d Z v k L :=
 ⟨h.box,h.row,h.own,h.far,h.cur,h.code,below_drewN h.below 1,h.keep⟩
theorem LdSt.grow {v':Value} {k':Nat} {L':List Int} (h:LdSt w wr g A n c zs b m d Z v k L) (hb:Below (w.heap.size+1) wr w') (ho:OwnR w' (w.heap.size+1) 154 3 v' k' L'):LdSt w w' g A n c zs b m d Z v' k' L':=by
 have hf:=h.far;refine ⟨RowF.below h.box hb (by omega),RowF.below h.row hb (by omega),ho,h.far,?_,h.code.below (hb.mono (by omega)),h.below.trans (hb.mono (by omega)),h.keep.belowB hb (by omega)⟩;obtain ⟨i,x,hi,hcc⟩:=h.cur;exact ⟨i,x,hi,RowF.below hcc hb (by omega)⟩
end
def LdPost (w:World) (g:Nat) (A:Option Addr) (n c:Nat) (b m:Nat) (Z:List Int) (e:Ending) (w':World):Prop :=
 ∃ (v:Value) (k:Nat) (L:List Int),e = .returned v∧k≤4∧OwnR w' w.heap.size 154 3 v k L∧RowF w' b 45 (m*4) (ints Z)∧CurAt w' g A n c∧KeepB g w.heap.size w w'∧Below g w w'
theorem rowF_new3L (w:World) (a b c:Int) (T:TypeId):RowF (w.alloc (.cells #[.int .i64 a,.int .i64 b,.int .i64 c] T)) w.heap.size T 3 (ints [a,b,c]) :=
 RowF.of_row (World.rowIs_alloc w #[.int .i64 a,.int .i64 b,.int .i64 c] T _ (fun j hj=>by simp at hj; match j,hj with | 0,_=>rfl | 1,_=>rfl | 2,_=>rfl))
set_option maxRecDepth 100000 in
set_option maxHeartbeats 6400000 in
theorem l07Loads_any (g:Nat) (A:Option Addr) (n c:Nat) (zs:List Int) (b m d:Nat) (Z:List Int) (w:World) (h:BytesAt w g A n zs) (hn:n≤1048576) (hc:CurAt w g A n c) (hg:g<b) (hb:b<w.heap.size) (hr:RowF w b 45 (m*4) (ints Z)) (hm:m≤8) :
  Calls Tryzx.prog 80 #[.pointer (some ⟨g,0,none⟩),.agg #[.slice (some ⟨b,0,none⟩) m d]] w (LdPost w g A n c b m Z):=by
 have HL0:Hid (LdSt w ((w.alloc (.cells #[.slice (some ⟨b,0,none⟩) m d] 26)).alloc (.cells #[] 154)) g A n c zs b m d Z (.slice (some ⟨w.heap.size+1,0,none⟩) 0 0) 0 []):=Lib.hid (by
  have b1:Below w.heap.size w (w.alloc (.cells #[.slice (some ⟨b,0,none⟩) m d] 26)):=(Below.refl _ _).alloc (Nat.le_refl _) _;have b2:=b1.alloc (o := .cells #[] 154) b1.size;have ho:=OwnR.new (w.alloc (.cells #[.slice (some ⟨b,0,none⟩) m d] 26)) 154 3;rw [World.size_alloc] at ho;exact ⟨(rowF_new1S w _ _).alloc _,hr.after b2,ho,⟨hg,hb⟩,hc.after b2,h.below (b2.mono (by omega)),b2.mono (by omega),fun k hk _=>b2.block k hk⟩)
 clear h hc hr;go_enter Tryzx.func80,Tryz.ntmps80;go_wp2_with fail
 refine (l01Below_any g A n c zs 4 _ HL0.out.code hn HL0.out.cur (by omega) (by omega)).mono ?_;rintro e w1 ⟨x,rfl,x0,x1,hc1,ho1⟩;have HL1:=Lib.hid (HL0.out.only ho1 hc1);obtain ⟨q,rfl⟩:=Int.eq_ofNat_of_zero_le x0;clear hc1 ho1 HL0 x0;go_wp2;go_loopw [5,7] (fun v5 v7 wr=>∃ (k:Nat) (L:List Int) (A5:Option Addr) (c5:Nat),v5 = .slice A5 k c5∧v7 = .int .i64 k∧k≤q∧Hid (LdSt w wr g A n c zs b m d Z (.slice A5 k c5) k L)) (fun _ v7 _=>q - (intOf v7).toNat)
 case atStart=>exact ⟨0,[],_,_,rfl,rfl,Nat.zero_le _,HL1⟩
 case round =>
  clear HL1;obtain ⟨k,L,A5,c5,rfl,rfl,hk,HL⟩:=hrel;have bx:wr.cell? ⟨w.heap.size,0,none⟩=some (.slice (some ⟨b,0,none⟩) m d):=HL.out.box.cell (i:=0) (by omega);by_cases hlt:k<q
  ·have kq:(k:Int)<(q:Int):=by omega
   by_cases hm1:1<m
   ·have m1:(1:Int)<(m:Int):=by omega
    have e1:IntKind.i64.wrap ((m:Int) - 1)=(m:Int) - 1:=IntWalk.i64_in _ (by omega);have e2:IntKind.i64.wrap ((k:Int)+1)=(k:Int)+1:=IntWalk.i64_in _ (by omega);go_wp2_with fail
    refine (l01Below_any g A n c zs ((m:Int) - 1) _ HL.out.code hn HL.out.cur (by omega) (by omega)).mono ?_;rintro e w2 ⟨x,rfl,y0,y1,hc2,ho2⟩;have HL2:=Lib.hid (HL.out.only ho2 hc2);obtain ⟨i,rfl⟩:=Int.eq_ofNat_of_zero_le y0;have hi:i<m:=by omega
    clear hc2 ho2 HL bx y0 y1;have HLA:=Lib.hid (HL2.out.after ((Below.refl _ _).alloc (Nat.le_refl _) (.cells #[.int .i64 0,.int .i64 6,.int .i64 20,.int .i64 60,.int .i64 200] 3)));have HRA:Hid (RowF (w2.alloc (.cells #[.int .i64 0,.int .i64 6,.int .i64 20,.int .i64 60,.int .i64 200] 3)) w2.heap.size 3 5 (ints [0,6,20,60,200])):=Lib.hid (rowF_lit w2 3 [0,6,20,60,200] 5 rfl);have hgl:w2.heap.size ≠ g:=by have:=HL2.out.far; have:=HL2.out.below.size; omega
    go_wp2_with fail
    refine (l01PickInt_any g A n c zs _ 5 _ _ _ HLA.out.code hn HLA.out.cur hgl HRA.out (by omega) (by omega)).mono ?_;rintro e w3 ⟨u,rfl,hc3,ho3⟩;have HL3:=Lib.hid (HLA.out.only ho3 hc3);clear hc3 ho3 HL2 HLA HRA hgl;have bx:w3.cell? ⟨w.heap.size,0,none⟩=some (.slice (some ⟨b,0,none⟩) m d):=HL3.out.box.cell (i:=0) (by omega);have jx:w3.cell? ⟨b,i*4+2,none⟩=some (.int .i64 (nth Z (i*4+2))):=HL3.out.row.cell (i:=i*4+2) (by omega);have im:(i:Int)<(m:Int):=by omega
    have i0:(0:Int)≤(i:Int):=by omega
    generalize nth Z (i*4+2)=jz at *
    go_wp2;refine wp_region_held_drew (S:=fun w'=>w'.cell? ⟨w.heap.size,0,none⟩=some (.slice (some ⟨b,0,none⟩) m d)∧w'.cell? ⟨b,i*4+2,none⟩=some (.int .i64 jz)) (by kernel_rfl) (by exact ⟨bx,jx⟩) (fun hHeld => ?_);refine take_heldS (i:=0) (d:=33) rfl rfl ?_;try simp only [Act.put,ly3]
    refine take_heldS (i:=1) (d:=34) rfl rfl ?_;try simp only [Act.put,ly3]
    refine take_heldS (i:=2) (d:=35) rfl rfl ?_;try simp only [Act.put,ly3]
    refine take_heldS (i:=3) (d:=36) rfl rfl ?_;try simp only [Act.put,ly3]
    refine take_heldS (i:=4) (d:=37) rfl rfl ?_;try simp only [Act.put,ly3]
    refine take_heldS (i:=5) (d:=38) rfl rfl ?_;try simp only [Act.put,ly3]
    refine take_heldS (i:=6) (d:=39) rfl rfl ?_;try simp only [Act.put,ly3]
    refine take_heldS (i:=7) (d:=40) rfl rfl ?_;try simp only [Act.put,ly3]
    refine take_heldS (i:=8) (d:=41) rfl rfl ?_;try simp only [Act.put,ly3]
    refine take_heldS (i:=9) (d:=42) rfl rfl ?_;try simp only [Act.put,ly3]
    refine take_heldS (i:=10) (d:=43) rfl rfl ?_;try simp only [Act.put,ly3]
    refine wpAnyH_ready (rs := [11]) (by kernel_rfl) (by simp) ?_;refine AllReadyH.cons rfl (fun K hK => ?_) AllReadyH.nil;go_simp
    refine (l01Below_any g A n c zs 4 _ HL3.out.drew.code hn HL3.out.drew.cur (by omega) (by omega)).mono ?_; rintro e w4 ⟨y,rfl,_,_,hc4,ho4⟩; have HL4:=Lib.hid (HL3.out.drew.only ho4 hc4);refine hK.out _ _ (by exact ⟨HL4.out.box.cell (i:=0) (by omega),(ho4.cell (p:=⟨b,i*4+2,none⟩) (by simp; have:=HL4.out.far; omega)).trans jx⟩) (fun hHeld => ?_)
    clear hK K;try simp only [Act.put,ly3]
    refine take_heldS (i:=12) (d:=45) rfl rfl ?_;try simp only [Act.put,ly3]
    refine take_heldS (i:=13) (d:=46) rfl rfl ?_;try simp only [Act.put,ly3]
    refine wpAnyH_ready (rs := [14]) (by kernel_rfl) (by simp) ?_;refine AllReadyH.cons rfl (fun K hK => ?_) AllReadyH.nil;go_simp
    skip
    refine hK.out _ _ (by exact ⟨(HL4.out.box.alloc _).cell (i:=0) (by omega),(cell_alloc_lt (RowF.lt HL4.out.row)).trans ((ho4.cell (p:=⟨b,i*4+2,none⟩) (by simp; have:=HL4.out.far; omega)).trans jx)⟩) (fun hHeld => ?_)
    clear hK K;try simp only [Act.put,ly3]
    refine wpAnyH_ready (rs := [15]) (by kernel_rfl) (by simp) ?_;refine AllReadyH.cons rfl (fun K hK => ?_) AllReadyH.nil;refine step_appR rfl (.tmp 33) (.tmp 47) 27 rfl (w.heap.size+1) 154 3 24 #[.int .i64 0,.int .i64 0,.int .i64 0] Tryzx.underlying27 infoLoad rfl (by decide) (by decide) _ k L rfl (by exact HL4.out.own.alloc _) w4.heap.size 1 1 [(i:Int),u,IntKind.i64.wrap (jz+y)] rfl rfl (by exact fun j hj=>(rowF_new3L w4 _ _ _ _).cell hj) (by omega) (w.heap.size+1) w4 (by exact (Below.refl _ _).alloc (by have:=HL4.out.below.size; have:=RowF.lt HL4.out.box; omega) _) (Nat.le_refl _) (by have:=RowF.lt HL4.out.box; simp; omega) _ rfl (by omega) ?_; intro g' cap' w5 hown5 hb5; have HL5:=Lib.hid (HL4.out.grow hb5 hown5);refine hK.out _ _ (by exact ⟨HL5.out.box.cell (i:=0) (by omega),(hb5.cell (p:=⟨b,i*4+2,none⟩) (by simp; have:=HL4.out.far; omega)).trans ((ho4.cell (p:=⟨b,i*4+2,none⟩) (by simp; have:=HL4.out.far; omega)).trans jx)⟩) (fun hHeld => ?_)
    clear hK K;try simp only [Act.put,ly3]
    refine take_heldS (i:=16) (d:=5) rfl rfl ?_;try simp only [Act.put,ly3]
    refine wpAnyH_done (by kernel_rfl) ?_ _;clear hc4 ho4 hown5 hb5 bx jx HL3 HL4;go_wp2;go_roundw
    case rel=>exact ⟨k+1,_,_,cap',rfl,by go_num,by omega,HL5⟩
    case measure=>simp [intOf]; omega
   ·have m1:¬ (1:Int)<(m:Int):=by omega
    go_wp2;go_ret;exact ⟨.slice A5 k c5,k,L,rfl,by omega,HL.out.own.weaken (by omega),HL.out.row,HL.out.cur,HL.out.keep,HL.out.below⟩
  ·have kq:¬ (k:Int)<(q:Int):=by omega
   go_wp2;go_ret;exact ⟨.slice A5 k c5,k,L,rfl,by omega,HL.out.own.weaken (by omega),HL.out.row,HL.out.cur,HL.out.keep,HL.out.below⟩
def RowX (w:World) (base:Nat) (E:TypeId) (K k:Nat) (A:Option Addr) (L:List Int):Prop:=L.length=k*K∧(k=0 ∨ ∃ g,A=some ⟨g,0,none⟩∧base≤g∧RowF w g E (k*K) (ints L))
section
variable {w w' : World} {base : Nat} {E : TypeId} {K k c : Nat} {A : Option Addr} {L : List Int}
theorem RowX.of (h:OwnR w base E K (.slice A k c) k L):RowX w base E K k A L:=by
 refine ⟨h.2,?_⟩;rcases h.form with ⟨_,h2,_⟩ | ⟨g,cap,e,hb,_,hr⟩
 ·exact .inl h2
 ·simp at e
  exact .inr ⟨g,e.1,hb,hr⟩
theorem RowX.recs (h:RowX w base E K k A L):RecsAt w w.heap.size K A k L:=by
 refine ⟨h.1,fun hm => ?_⟩;rcases h.2 with h2 | ⟨g,rfl,_,hr⟩
 ·omega
 ·exact ⟨g,0,rfl,RowF.lt hr,fun i hi=>by rw [Nat.zero_add]; exact hr.cell hi⟩
theorem RowX.after (h:RowX w base E K k A L) (hb:Below w.heap.size w w'):RowX w' base E K k A L :=
 ⟨h.1,h.2.imp id fun ⟨g,e,h2,hr⟩=>⟨g,e,h2,RowF.after hr hb⟩⟩
theorem RowX.set (h:RowX w base E K k A L) {p:Addr} (hp:p.block<base) (u:Value):RowX (w.setCell p u) base E K k A L :=
 ⟨h.1,h.2.imp id fun ⟨g,e,h2,hr⟩=>⟨g,e,h2,hr.set_other (by omega) u⟩⟩
theorem RowX.mono {base':Nat} (h:RowX w base E K k A L) (hb:base'≤base):RowX w base' E K k A L :=
 ⟨h.1,h.2.imp id fun ⟨g,e,h2,hr⟩=>⟨g,e,by omega,hr⟩⟩
end
theorem rowRecs {w:World} {b K m:Nat} {E:TypeId} {Z:List Int} (h:RowF w b E (m*K) (ints Z)) (hl:Z.length=m*K):RecsAt w w.heap.size K (some ⟨b,0,none⟩) m Z :=
 ⟨hl,fun _=>⟨b,0,rfl,RowF.lt h,fun i hi=>by rw [Nat.zero_add]; exact h.cell hi⟩⟩
def StPost (B base:Nat) (w:World) (e:Ending) (w':World):Prop :=
 ∃ (b m d:Nat) (Z:List Int) (A':Option Addr) (q cp:Nat) (L:List Int),e = .returned (.tuple #[.agg #[.slice (some ⟨b,0,none⟩) m d],.slice A' q cp])∧m≤8∧q≤4∧base<b∧Z.length=m*4∧archB Z m=true∧RowF w' b 45 (m*4) (ints Z)∧RowX w' (base+1) 154 3 q A' L∧Below B w w'
structure SdSt (w wr:World) (g:Nat) (A:Option Addr) (n c:Nat) (zs:List Int):Prop where
 res:RowF wr w.heap.size 26 1 (fun _ => .slice none 0 0)
 cur:CurAt wr g A n c
 code:BytesAt wr g A n zs
 below:Below g w wr
theorem SdSt.after {w wr w':World} {g:Nat} {A:Option Addr} {n c:Nat} {zs:List Int} (h:SdSt w wr g A n c zs) (hg:g<w.heap.size) (hb:Below wr.heap.size wr w'):SdSt w w' g A n c zs :=
 ⟨h.res.after hb,h.cur.after hb,h.code.below (hb.mono (by have:=h.below.size; omega)),h.below.trans (hb.mono (by have:=h.below.size; omega))⟩
theorem SdSt.next {w wr w':World} {g:Nat} {A:Option Addr} {n c:Nat} {zs:List Int} (h:SdSt w wr g A n c zs) (hr:RowF w' w.heap.size 26 1 (fun _ => .slice none 0 0)) (hc:CurAt w' g A n c) (hb:Below g wr w'):SdSt w w' g A n c zs :=
 ⟨hr,hc,h.code.below hb,h.below.trans hb⟩
set_option maxRecDepth 100000 in
set_option maxHeartbeats 6400000 in
theorem l12Standing_any (g:Nat) (A:Option Addr) (n c:Nat) (zs:List Int) (w:World) (h:BytesAt w g A n zs) (hn:n≤1048576) (hc:CurAt w g A n c) (hg:g<w.heap.size) :
  Calls Tryzx.prog 42 #[.pointer (some ⟨g,0,none⟩)] w (StPost g w.heap.size w):=by
 have HG:=Lib.hid hg;have HS0:Hid (SdSt w (w.alloc (.cells #[.slice none 0 0] 26)) g A n c zs):=Lib.hid (by
  have b1:Below w.heap.size w (w.alloc (.cells #[.slice none 0 0] 26)):=(Below.refl _ _).alloc (Nat.le_refl _) _;exact ⟨rowF_new1S _ _ _,hc.after b1,h.below (b1.mono (by omega)),b1.mono (by omega)⟩)
 clear h hc;go_enter Tryzx.func42,Tryz.ntmps42;go_wp2;go_loopw [4] (fun v4 wr=>∃ k:Nat,v4 = .int .i64 k∧k≤5∧Hid (SdSt w wr g A n c zs)) (fun v4 _=>5 - (intOf v4).toNat)
 case atStart=>exact ⟨0,rfl,Nat.zero_le _,HS0⟩
 case round =>
  clear HS0;obtain ⟨k,rfl,hk,HS⟩:=hrel;by_cases hlt:k<5
  ·have k5:(k:Int)<5:=by omega
   have e2:IntKind.i64.wrap ((k:Int)+1)=(k:Int)+1:=IntWalk.i64_in _ (by omega);have hgl:g<wr.heap.size:=by have:=HS.out.below.size; omega
   have hwl:w.heap.size<wr.heap.size:=RowF.lt HS.out.res;go_wp2_with fail
   refine (l06Arch_keep g A n c zs _ HS.out.code hn HS.out.cur hgl).mono ?_;rintro e w1 ⟨b,m,d,Z,rfl,hb,hmd,hr,hl,ho,hcc,hkp,hb1⟩;have HS1:=Lib.hid (HS.out.next (hkp.row HS.out.res hwl (by omega)) hcc hb1);have hm8:=(archB_out ho).1;have hgb:g<b:=by omega
   have hs1:=hb1.size;have ba:Below w1.heap.size w1 (w1.alloc (.cells #[.slice (some ⟨b,0,none⟩) m d] 26)):=(Below.refl _ _).alloc (Nat.le_refl _) _;have HS2:=Lib.hid (HS1.out.after HG.out ba);have HR2:=Lib.hid (hr.after ba);have HX2:=Lib.hid (rowF_new1S w1 (.slice (some ⟨b,0,none⟩) m d) 26);have hbl:b<w1.heap.size:=RowF.lt hr;have hrz:Hid (Z.length=m*4∧archB Z m=true):=Lib.hid ⟨hl,ho⟩;obtain ⟨X,hX⟩:∃ X,w1.heap.size=X:=⟨_,rfl⟩;have hs2:(w1.alloc (.cells #[.slice (some ⟨b,0,none⟩) m d] 26)).heap.size=X+1:=by simp [hX]
   have HZ2:=Lib.hid hs2;rw [hX] at HX2 hbl hs1;have HXE:=Lib.hid hX;clear hr hl ho hcc hkp hb1 ba HS HS1 hs2 hX;go_wp2_with fail
   refine (l07Loads_any g A n c zs b m d Z _ HS2.out.code hn HS2.out.cur hgb (by rw [HZ2.out]; omega) HR2.out hm8.2).mono ?_
   rintro e w3 ⟨v,q,L,rfl,hq,ho3,hr3,hc3,hk3,hb3⟩;have HS3:=Lib.hid (HS2.out.next (hk3.row HS2.out.res (by rw [HZ2.out]; omega) (by omega)) hc3 hb3)
   have HX3:=Lib.hid (hk3.row HX2.out (by rw [HZ2.out]; omega) (by omega))
   obtain ⟨A',cp,rfl,_⟩:=ho3.slice;have HL3:Hid (RowX w3 (w.heap.size+1) 154 3 q A' L):=Lib.hid ((RowX.of ho3).mono (by rw [HZ2.out]; omega))
   have HR3:=Lib.hid hr3;have xb:w3.cell? ⟨w1.heap.size,0,none⟩=some (.slice (some ⟨b,0,none⟩) m d):=by rw [HXE.out]; exact HX3.out.cell (i:=0) (by omega)
   clear hc3 hk3 hb3 ho3 hr3 HS2 HX2 HR2;go_wp2_with fail
   refine (sStd_any _ _ _ Z _ _ _ L _ (rowRecs HR3.out hrz.out.1) (by omega) HL3.out.recs (by omega)).mono ?_;generalize decide (0<(thrN Z m L q:Int))=bb;rintro e w4 ⟨rfl,hb4⟩;have HS4:=Lib.hid (HS3.out.after HG.out hb4);have HX4:=Lib.hid (HX3.out.after hb4);have HR4:=Lib.hid (HR3.out.after hb4);have HL4:=Lib.hid (HL3.out.after hb4);clear hb4 HS3 HX3 HR3 HL3 xb;have xb:w4.cell? ⟨w1.heap.size,0,none⟩=some (.slice (some ⟨b,0,none⟩) m d):=by rw [HXE.out]; exact HX4.out.cell (i:=0) (by omega)
   cases bb
   ·go_wp2
    go_roundw
    case rel=>exact ⟨k+1,by go_num,by omega,HS4⟩
    case measure=>simp [intOf]; omega
   ·have d0:w4.cell? ⟨w.heap.size,0,none⟩=some (.slice none 0 0):=HS4.out.res.cell (i:=0) (by omega)
    have f0:=HS4.out.res.frozen 0;have hs:=RowF.lt HS4.out.res;go_wp2;refine bodyPost_ret (v := .tuple #[.agg #[.slice (some ⟨b,0,none⟩) m d],.slice A' q cp]) (by simp [results,Tryz.results42,go_sem, *]) rfl ?_;exact ⟨b,m,d,Z,A',q,cp,L,rfl,hm8.2,hq,by omega,hrz.out.1,hrz.out.2,HR4.out.set_other (by simp; omega) _,HL4.out.set (by simp) _,HS4.out.below.setCell (by simp; omega) _⟩
  ·obtain rfl:k=5:=by omega
   have k5:¬ ((5:Nat):Int)<5:=by omega
   go_wp2_with fail
   refine (l06Shape_any 1 _ (by omega) (by omega)).mono ?_;rintro e w1 ⟨b,m,Z,rfl,hb,hr,hl,ho,hb1⟩;have HS1:=Lib.hid (HS.out.after HG.out hb1);have hwl:w.heap.size<wr.heap.size:=RowF.lt HS.out.res;have hm8:=(archB_out ho).1;have HR1:=Lib.hid hr;have hrz:Hid (Z.length=m*4∧archB Z m=true):=Lib.hid ⟨hl,ho⟩;have hs1:=hb1.size;have d0:w1.cell? ⟨w.heap.size,0,none⟩=some (.slice none 0 0):=HS1.out.res.cell (i:=0) (by omega);have f0:=HS1.out.res.frozen 0;have hs:=RowF.lt HS1.out.res;clear hr hl ho hb1;go_wp2;refine bodyPost_ret (v := .tuple #[.agg #[.slice (some ⟨b,0,none⟩) m m],.slice (some ⟨w1.heap.size,0,none⟩) 0 0]) (by simp [results,Tryz.results42,go_sem, *]) rfl ?_;exact ⟨b,m,m,Z,_,0,0,[],rfl,hm8.2,by omega,by omega,hrz.out.1,hrz.out.2,(HR1.out.set_other (by simp; omega) _).alloc _,⟨rfl,.inl rfl⟩,(HS1.out.below.setCell (by simp; omega) _).alloc (by have:=HG.out; simp; omega) _⟩
set_option maxRecDepth 100000 in
set_option maxHeartbeats 3200000 in
theorem drawStanding_any (A:Option Addr) (n c:Nat) (zs:List Int) (w:World) (h:BytesAt w w.heap.size A n zs) (hn:n≤1048576) :
  Calls Tryzx.prog 8 #[.slice A n c] w (StPost w.heap.size w.heap.size w):=by
 have h0:BytesAt (w.alloc (.cells #[.slice none 0 0] 26)) (w.alloc (.cells #[.slice none 0 0] 26)).heap.size A n zs:=h.after ((Below.refl _ _).alloc (Nat.le_refl _) _);have HB0:Hid (Below w.heap.size w (w.alloc (.cells #[.slice none 0 0] 26))):=Lib.hid ((Below.refl _ _).alloc (Nat.le_refl _) _);have HV0:Hid (RowF (w.alloc (.cells #[.slice none 0 0] 26)) w.heap.size 26 1 (fun _ => .slice none 0 0)):=Lib.hid (rowF_new1S _ _ _);go_enter Tryzx.func8,Tryz.ntmps8;go_wp2_with fail
 refine (l01New_any _ _ _ zs _ h0 hn).mono ?_;rintro e w1 ⟨g,rfl,hg,hc,hb1⟩;have hgl:g<w1.heap.size:=by
  obtain ⟨i,x,_,hcc⟩:=hc;exact RowF.lt hcc
 have h1:BytesAt w1 g A n zs:=(h0.below hb1).mono hg;have hgw:w.heap.size<g:=by simp at hg; omega
 have HB1:=Lib.hid (HB0.out.trans (hb1.mono (by simp)));have HV1:=Lib.hid (HV0.out.after hb1);clear hb1 h h0;go_wp2_with fail
 refine (l12Standing_any g _ _ _ zs _ h1 hn hc hgl).mono ?_;rintro e w2 ⟨b,m,d,Z,A',q,cp,L,rfl,hm8,hq,hb,hl,ho,hr,hx,hb2⟩;have HV2:=Lib.hid (RowF.of_block HV1.out (hb2.block w.heap.size hgw));have HB2:=Lib.hid (HB1.out.trans (hb2.mono (by omega)));have HR2:=Lib.hid hr;have HX2:=Lib.hid (hx.mono (base':=w.heap.size+1) (by omega));have hrz:Hid (Z.length=m*4∧archB Z m=true):=Lib.hid ⟨hl,ho⟩;clear hb2 h1 hc hr hx hl ho;have d0:w2.cell? ⟨w.heap.size,0,none⟩=some (.slice none 0 0):=HV2.out.cell (i:=0) (by omega);have f0:=HV2.out.frozen 0;have hs:=RowF.lt HV2.out;go_wp2;refine bodyPost_ret (v := .tuple #[.agg #[.slice (some ⟨b,0,none⟩) m d],.slice A' q cp]) (by simp [results,Tryz.results8,go_sem, *]) rfl ?_;exact ⟨b,m,d,Z,A',q,cp,L,rfl,hm8,hq,by omega,hrz.out.1,hrz.out.2,(HR2.out.set_other (by simp; omega) _).alloc _,(HX2.out.set (by simp) _).after ((Below.refl _ _).alloc (Nat.le_refl _) _),(HB2.out.setCell (by simp) _).alloc (by have:=HB2.out.size; simp; omega) _⟩
end X
namespace X
open Go.RowKit
def stB (zs:List Int) (n:Nat) (ls:List Int) (q:Nat) (H V M D:Int):Bool:=fulAll (rowsZ zs n ls q) (rowsN zs n ls q) H V M D
theorem rowsN_le (zs:List Int) (n:Nat) (ls:List Int) (q:Nat):rowsN zs n ls q≤17:=by
 unfold rowsN;split
 ·rename_i h
  have:=(archB_out (loadsB_out h).1).1;omega
 ·omega
set_option maxRecDepth 100000 in
set_option maxHeartbeats 1600000 in
theorem iStandsWith_any (A : Option Addr) (n c : Nat) (zs : List Int) (B : Option Addr) (q d : Nat) (ls : List Int) (H V M D : Int) (w : World) (h : RecsAt w w.heap.size 4 A n zs) (hn : n ≤ 1048576) (hl : RecsAt w w.heap.size 3 B q ls) (hq : q ≤ 1048576) :
    Calls Tryzx.prog 15 #[.agg #[.slice A n c], .slice B q d, .agg #[.int .i64 H, .int .i64 V, .int .i64 M, .int .i64 D]] w fun e w' => e = .returned (.bool (stB zs n ls q H V M D)) ∧ Below w.heap.size w w' := by
  have at0 := AT.start w (.slice A n c) H V M D 26 31;have b0 := at_below w (.slice A n c) H V M D 26 31;have h1 := h.after b0;have l1 := hl.after b0;have a0 := at0.arch.1;obtain ⟨t0, t1, t2, t3⟩ := at0.thr.1;have hr17 := rowsN_le zs n ls q;have HST : Hid (stB zs n ls q H V M D = fulAll (rowsZ zs n ls q) (rowsN zs n ls q) H V M D) := rfl;generalize stB zs n ls q H V M D = sb at *
  clear b0 h hl;go_enter Tryzx.func15, Tryz.ntmps15;go_wp2;go_region_held3 (fun w' => w'.cell? ⟨w.heap.size, 0, none⟩ = some (.slice A n c) ∧ (w'.cell? ⟨w.heap.size + 1, 0, none⟩ = some (.int .i64 H) ∧ w'.cell? ⟨w.heap.size + 1, 1, none⟩ = some (.int .i64 V) ∧ w'.cell? ⟨w.heap.size + 1, 2, none⟩ = some (.int .i64 M) ∧ w'.cell? ⟨w.heap.size + 1, 3, none⟩ = some (.int .i64 D))) (first | exact ⟨a0, t0, t1, t2, t3⟩ | exact ⟨at2.arch.1, at2.thr.1⟩ | exact ⟨at3.arch.1, at3.thr.1⟩)
    ((first
      | (go_at_call 48; refine (iRowsOf_any _ _ _ zs _ _ _ ls _ (by exact h1) hn (by exact l1) hq).mono ?_; rintro e w2 ⟨v2, rfl, ho2, hbx2⟩; have hb2 := below_undrew hbx2; have at2 := at0.after hb2; obtain ⟨A2, c2, rfl, _⟩ := ho2.slice; have r2 := ho2.recs)
      | (go_at_call 56; refine (iFulfillsAll_any _ _ _ _ _ _ _ _ _ (by exact r2) (by omega)).mono ?_; rintro e w3 ⟨rfl, hb3⟩; have at3 := at2.after hb3)))
  have HB3 := Lib.hid at3.below;clear at0 at2 at3 hb2 hb3 hbx2 ho2 r2 a0 t0 t1 t2 t3 h1 l1;go_wp2;go_ret;exact ⟨ret_bool (by rw [HST.out]), HB3.out⟩
set_option maxRecDepth 100000 in
set_option maxHeartbeats 1600000 in
theorem sStandsWith_any (A : Option Addr) (n c : Nat) (zs : List Int) (B : Option Addr) (q d : Nat) (ls : List Int) (H V M D : Int) (w : World) (h : RecsAt w w.heap.size 4 A n zs) (hn : n ≤ 1048576) (hl : RecsAt w w.heap.size 3 B q ls) (hq : q ≤ 1048576) :
    Calls Tryzx.prog 77 #[.agg #[.slice A n c], .slice B q d, .agg #[.int .i64 H, .int .i64 V, .int .i64 M, .int .i64 D]] w fun e w' => e = .returned (.bool (stB zs n ls q H V M D)) ∧ Below w.heap.size w w' := by
  have at0 := AT.start w (.slice A n c) H V M D 26 31;have b0 := at_below w (.slice A n c) H V M D 26 31;have h1 := h.after b0;have l1 := hl.after b0;have a0 := at0.arch.1;obtain ⟨t0, t1, t2, t3⟩ := at0.thr.1;have hr17 := rowsN_le zs n ls q;have HST : Hid (stB zs n ls q H V M D = fulAll (rowsZ zs n ls q) (rowsN zs n ls q) H V M D) := rfl;generalize stB zs n ls q H V M D = sb at *
  clear b0 h hl;go_enter Tryzx.func77, Tryz.ntmps77;go_wp2;go_region_held3 (fun w' => w'.cell? ⟨w.heap.size, 0, none⟩ = some (.slice A n c) ∧ (w'.cell? ⟨w.heap.size + 1, 0, none⟩ = some (.int .i64 H) ∧ w'.cell? ⟨w.heap.size + 1, 1, none⟩ = some (.int .i64 V) ∧ w'.cell? ⟨w.heap.size + 1, 2, none⟩ = some (.int .i64 M) ∧ w'.cell? ⟨w.heap.size + 1, 3, none⟩ = some (.int .i64 D))) (first | exact ⟨a0, t0, t1, t2, t3⟩ | exact ⟨at2.arch.1, at2.thr.1⟩ | exact ⟨at3.arch.1, at3.thr.1⟩)
    ((first
      | (go_at_call 74; refine (sRowsOf_any _ _ _ zs _ _ _ ls _ (by exact h1) hn (by exact l1) hq).mono ?_; rintro e w2 ⟨v2, rfl, ho2, hbx2⟩; have hb2 := below_undrew hbx2; have at2 := at0.after hb2; obtain ⟨A2, c2, rfl, _⟩ := ho2.slice; have r2 := ho2.recs)
      | (go_at_call 114; refine (sFulfillsAll_any _ _ _ _ _ _ _ _ _ (by exact r2) (by omega)).mono ?_; rintro e w3 ⟨rfl, hb3⟩; have at3 := at2.after hb3)))
  have HB3 := Lib.hid at3.below;clear at0 at2 at3 hb2 hb3 hbx2 ho2 r2 a0 t0 t1 t2 t3 h1 l1;go_wp2;go_ret;exact ⟨ret_bool (by rw [HST.out]), HB3.out⟩
end X
namespace X
open Go.RowKit
def MetAll (rs:List Int) (n:Nat) (acc:List Int):Prop:=∃ q,acc.length=q*4∧∀ j,j<q→(thrB (nth acc (j*4)) (nth acc (j*4+1)) (nth acc (j*4+2)) (nth acc (j*4+3))=true∧allB (metAt rs (nth acc (j*4)) (nth acc (j*4+1)) (nth acc (j*4+2)) (nth acc (j*4+3))) n=true)
theorem nthL {xs ys:List Int} {j:Nat} (h:j<xs.length):nth (xs ++ ys) j=nth xs j:=by
 rw [nth_get _ _ (by rw [List.length_append]; omega),nth_get _ _ h,List.getElem_append_left h]
theorem nthR {xs ys:List Int} {j:Nat} (h:j<ys.length):nth (xs ++ ys) (xs.length+j)=nth ys j:=by
 rw [nth_get _ _ (by rw [List.length_append]; omega),nth_get _ _ h,List.getElem_append_right (by omega)]
 congr 1
 omega
theorem crStep_met {rs:List Int} {n i k m:Nat} {acc:List Int} (h:MetAll rs n acc):MetAll rs n (crStep rs n i k m acc):=by
 unfold crStep;split
 ·rename_i hc
  simp only [Bool.and_eq_true] at hc;have ht:=cr_thr rs hc.1;have hm:=hc.2.2;unfold crAll at hm;obtain ⟨q,hl,ha⟩:=h;refine ⟨q+1,by rw [List.length_append,hl]; simp; omega,fun j hj => ?_⟩
  by_cases e:j<q
  ·rw [nthL (by omega),nthL (by omega),nthL (by omega),nthL (by omega)]
   exact ha j e
  ·obtain rfl:j=q:=by omega
   have e0:j*4=acc.length+0:=by omega
   rw [e0,Nat.add_assoc,Nat.add_assoc,Nat.add_assoc,nthR (by simp),nthR (by simp),nthR (by simp),nthR (by simp)];exact ⟨ht,hm⟩
 ·exact h
theorem foldN_met {rs:List Int} {n:Nat} {f:Nat→List Int→List Int} (hf:∀ j a,MetAll rs n a→MetAll rs n (f j a)) {a:List Int} (h:MetAll rs n a):∀ t,MetAll rs n (foldN f t a)
 | 0=>h
 | t+1=>hf t _ (foldN_met hf h t)
theorem cornL_met (rs:List Int) (n:Nat):MetAll rs n (cornL rs n):=by
 have h0:MetAll rs n []:=⟨0,rfl,fun j hj=>absurd hj (by omega)⟩;cases e:cornB rs n
 ·rw [cornL_f e]; exact h0
 ·rw [cornL_t e]
  exact foldN_met (fun i a ha=>foldN_met (fun j a ha=>foldN_met (fun j a ha=>crStep_met ha) ha _) ha _) h0 _
theorem thr_stands {zs:List Int} {n:Nat} {ls:List Int} {q j:Nat} (h:j<thrN zs n ls q):stB zs n ls q (nth (thrL zs n ls q) (j*4)) (nth (thrL zs n ls q) (j*4+1)) (nth (thrL zs n ls q) (j*4+2)) (nth (thrL zs n ls q) (j*4+3))=true:=by
 obtain ⟨m,hl,ha⟩:=cornL_met (rowsZ zs n ls q) (rowsN zs n ls q);have hm:thrN zs n ls q=m:=by unfold thrN cornN; omega
 have hj:=ha j (by omega);have hB:cornB (rowsZ zs n ls q) (rowsN zs n ls q)=true:=by
  cases e:cornB (rowsZ zs n ls q) (rowsN zs n ls q)
  ·exfalso
   unfold thrN cornN at h;rw [cornL_f e] at h;simp at h
  ·rfl
 unfold cornB at hB;rw [Bool.and_eq_true] at hB;have hr:=allB_out hB.1;have hi:=inB_iff.1 hB.2;have ht:=allB_out hj.2;unfold stB thrL;refine fulAll_t (inB_iff.2 (by omega)) (fun i hi => ?_);have h1:=hr i hi;have h2:=ht i hi;unfold fulAt;rw [fulB_t hj.1 h1];exact h2
end X
namespace X
open Go.RowKit
def momI (H V M D W Mo px py:Int):Int:=M - D*Mo - px*(V - D*W)+py*H
structure MomBd (H V M D W Mo px py:Int):Prop where
 m : -10000000000000≤M∧M≤10000000000000
 v : -10000000000000≤V∧V≤10000000000000
 dm : -80000000000000≤D*Mo∧D*Mo≤80000000000000
 dw : -2000000000000≤D*W∧D*W≤2000000000000
 px : -720000000000000≤px*(V - D*W)∧px*(V - D*W)≤720000000000000
 py : -60000000000000≤py*H∧py*H≤60000000000000
theorem momBd {H V M D W Mo px py:Int} (ht:thrB H V M D=true) (hW : -2000000≤W∧W≤2000000) (hM : -80000000≤Mo∧Mo≤80000000) (hp:ptB px py=true):MomBd H V M D W Mo px py:=by
 obtain ⟨h1,h2,h3,h4,_⟩:=thrB_out ht;rw [ptB_iff] at hp;have e1:=mul_bd (a:=D) (b:=Mo) (m:=1000000) (n:=80000000) (by omega) hM;have e2:=mul_bd (a:=D) (b:=W) (m:=1000000) (n:=2000000) (by omega) hW;have e3:=mul_bd (a:=px) (b:=V - D*W) (m:=60) (n:=12000000000000) (by omega) (by omega);have e4:=mul_bd (a:=py) (b:=H) (m:=60) (n:=1000000000000) (by omega) (by omega);exact ⟨h4,h3,by omega,by omega,by omega,by omega⟩
def pushB (zs:List Int) (n:Nat) (ls:List Int) (q:Nat) (H V M D k:Int):Bool:=loadsB zs n ls q && (thrB H V M D && inB k 0 ((n:Int) - 1))
section
variable {zs : List Int} {n : Nat} {ls : List Int} {q : Nat} {H V M D k : Int}
theorem pushB_1 (H V M D k:Int) (h:loadsB zs n ls q=false):pushB zs n ls q H V M D k=false:=by simp [pushB,h]
theorem pushB_2 (zs:List Int) (n:Nat) (ls:List Int) (q:Nat) (k:Int) (h:thrB H V M D=false):pushB zs n ls q H V M D k=false:=by simp [pushB,h]
theorem pushB_out (h:pushB zs n ls q H V M D k=true):loadsB zs n ls q=true∧thrB H V M D=true∧0≤k∧k≤(n:Int) - 1:=by
 simp only [pushB,Bool.and_eq_true,inB_iff] at h;exact ⟨h.1,h.2.1,h.2.2.1,h.2.2.2⟩
end
def mIn (zs:List Int) (n:Nat) (ls:List Int) (q:Nat) (H V M D k:Int):Int :=
 if pushB zs n ls q H V M D k=true then momI H V M D (leftW zs ls q k.toNat) (leftM zs ls q k.toNat) (nth zs (k.toNat*4)) (nth zs (k.toNat*4+1)) else 0
def mOut (zs:List Int) (n:Nat) (ls:List Int) (q:Nat) (H V M D k:Int):Int :=
 if pushB zs n ls q H V M D k=true then momI H V M D (leftW zs ls q k.toNat) (leftM zs ls q k.toNat) (nth zs (k.toNat*4+2)) (nth zs (k.toNat*4+3)) else 0
section
variable {zs : List Int} {n : Nat} {ls : List Int} {q : Nat} {H V M D k : Int}
theorem m_f (h:pushB zs n ls q H V M D k=false):mIn zs n ls q H V M D k=0∧mOut zs n ls q H V M D k=0:=by simp [mIn,mOut,h]
theorem m_t {K:Nat} (h:pushB zs n ls q H V M D (K:Int)=true):mIn zs n ls q H V M D (K:Int)=momI H V M D (leftW zs ls q K) (leftM zs ls q K) (nth zs (K*4)) (nth zs (K*4+1)) ∧
  mOut zs n ls q H V M D (K:Int)=momI H V M D (leftW zs ls q K) (leftM zs ls q K) (nth zs (K*4+2)) (nth zs (K*4+3)):=by simp [mIn,mOut,h]
end
theorem archB_ptsP {zs:List Int} {n:Nat} (h:archB zs n=true):∀ m,m<n→ptB (nth zs (m*4)) (nth zs (m*4+1))=true∧ptB (nth zs (m*4+2)) (nth zs (m*4+3))=true:=by
 obtain ⟨hn,hp⟩:=archB_out h;intro m hm;by_cases e:m+1<n
 ·have h1:=hp m (by omega)
  simp only [pairB,Bool.and_eq_true] at h1;have h2:=(stoneB_out h1.1).2.1;exact ⟨h2 0 (by omega),h2 3 (by omega)⟩
 ·obtain ⟨k,rfl⟩:∃ k,m=k+1:=⟨m - 1,by omega⟩
  have h1:=hp k (by omega);simp only [pairB,Bool.and_eq_true] at h1;have h2:=(stoneB_out h1.1).2.1;exact ⟨h2 1 (by omega),h2 2 (by omega)⟩
theorem left_bds {zs:List Int} {n:Nat} {ls:List Int} {q K:Nat} (h:loadsB zs n ls q=true) (hK:K<n):(-2000000≤leftW zs ls q K∧leftW zs ls q K≤2000000)∧(-80000000≤leftM zs ls q K∧leftM zs ls q K≤80000000):=by
 obtain ⟨hA,hq,hl⟩:=loadsB_out h;have hn:=(archB_out hA).1;have h1:=leftW_bd zs hl hq K;have h2:=leftM_bd zs hl hq K;omega
theorem m_bds {zs:List Int} {n:Nat} {ls:List Int} {q K:Nat} {H V M D:Int} (h:pushB zs n ls q H V M D (K:Int)=true) :
  MomBd H V M D (leftW zs ls q K) (leftM zs ls q K) (nth zs (K*4)) (nth zs (K*4+1))∧MomBd H V M D (leftW zs ls q K) (leftM zs ls q K) (nth zs (K*4+2)) (nth zs (K*4+3)):=by
 obtain ⟨h1,h2,h3,h4⟩:=pushB_out h;have hb:=left_bds h1 (K:=K) (by omega);have hp:=archB_ptsP (loadsB_out h1).1 K (by omega);exact ⟨momBd h2 hb.1 hb.2 hp.1,momBd h2 hb.1 hb.2 hp.2⟩
end X
namespace X
open Go.RowKit
def lfB (zs:List Int) (n:Nat) (ls:List Int) (q:Nat) (k:Int):Bool:=loadsB zs n ls q && inB k 0 ((n:Int) - 1)
def lfW (zs:List Int) (n:Nat) (ls:List Int) (q:Nat) (k:Int):Int:=if lfB zs n ls q k=true then leftW zs ls q k.toNat else 0
def lfM (zs:List Int) (n:Nat) (ls:List Int) (q:Nat) (k:Int):Int:=if lfB zs n ls q k=true then leftM zs ls q k.toNat else 0
theorem lf_f {zs:List Int} {n:Nat} {ls:List Int} {q:Nat} {k:Int} (h:lfB zs n ls q k=false):lfW zs n ls q k=0∧lfM zs n ls q k=0:=by simp [lfW,lfM,h]
theorem lf_t {zs:List Int} {n:Nat} {ls:List Int} {q k:Nat} (h:lfB zs n ls q (k:Int)=true):lfW zs n ls q (k:Int)=leftW zs ls q k∧lfM zs n ls q (k:Int)=leftM zs ls q k:=by simp [lfW,lfM,h]
theorem lfB_1 {zs:List Int} {n:Nat} {ls:List Int} {q:Nat} (k:Int) (h:loadsB zs n ls q=false):lfB zs n ls q k=false:=by simp [lfB,h]
theorem lfB_2 (zs:List Int) {n:Nat} (ls:List Int) (q:Nat) {k:Int} (h:inB k 0 ((n:Int) - 1)=false):lfB zs n ls q k=false:=by simp [lfB,h]
theorem lfB_t {zs:List Int} {n:Nat} {ls:List Int} {q:Nat} {k:Int} (h:loadsB zs n ls q=true) (h2:inB k 0 ((n:Int) - 1)=true):lfB zs n ls q k=true:=by simp [lfB,h,h2]
theorem rowF_new2 (w:World) (a b:Int) (T:TypeId):RowF (w.alloc (.cells #[.int .i64 a,.int .i64 b] T)) w.heap.size T 2 (ints [a,b]) :=
 RowF.of_row (World.rowIs_alloc w #[.int .i64 a,.int .i64 b] T _ (fun j hj=>by simp at hj; match j,hj with | 0,_=>rfl | 1,_=>rfl))
theorem rowF_set2 {w:World} {g:Nat} {T:TypeId} {a b:Int} (h:RowF w g T 2 (ints [a,b])) (a' b':Int):RowF ((w.setCell ⟨g,0,none⟩ (.int .i64 a')).setCell ⟨g,1,none⟩ (.int .i64 b')) g T 2 (ints [a',b']) :=
 ((h.set 0 (.int .i64 a')).set 1 (.int .i64 b')).congr (fun i hi=>by match i,hi with | 0,_=>rfl | 1,_=>rfl)
structure LeftStart (w wr:World) (v:Value) (a b:Int):Prop where
 box:Box wr w.heap.size v
 res:RowF wr (w.heap.size+1) 143 2 (ints [0,0])
 sum:RowF wr (w.heap.size+2) 143 2 (ints [a,b])
 below:Below w.heap.size w wr
theorem LeftStart.after {w wr w2:World} {v:Value} {a b:Int} (h:LeftStart w wr v a b) (hb:Below wr.heap.size wr w2):LeftStart w w2 v a b:=⟨h.box.after hb,h.res.after hb,h.sum.after hb,h.below.trans (hb.mono h.below.size)⟩
theorem LeftStart.set {w wr:World} {v:Value} {a b:Int} (h:LeftStart w wr v a b) (a' b':Int):LeftStart w ((wr.setCell ⟨w.heap.size+2,0,none⟩ (.int .i64 a')).setCell ⟨w.heap.size+2,1,none⟩ (.int .i64 b')) v a' b' :=
 ⟨⟨(World.cell?_setCell_far _ _ _ _ (by simp)).trans ((World.cell?_setCell_far _ _ _ _ (by simp)).trans h.box.1),by have:=h.box.2; simpa using this⟩,(h.res.set_other (by simp) _).set_other (by simp) _,rowF_set2 h.sum a' b',(h.below.setCell (by simp) _).setCell (by simp) _⟩
theorem leftStart (w:World) (v:Value) (T:TypeId):LeftStart w (((w.alloc (.cells #[v] T)).alloc (.cells #[.int .i64 0,.int .i64 0] 143)).alloc (.cells #[.int .i64 0,.int .i64 0] 143)) v 0 0:=by
 refine ⟨((Box.new w v T).alloc _).alloc _,?_,?_,(((Below.refl _ _).alloc (Nat.le_refl _) _).alloc (by simp) _).alloc (by simp; omega) _⟩
 ·have h:=(rowF_new2 (w.alloc (.cells #[v] T)) 0 0 143).alloc (.cells #[.int .i64 0,.int .i64 0] 143)
  rw [World.size_alloc] at h;exact h
 ·have h:=rowF_new2 ((w.alloc (.cells #[v] T)).alloc (.cells #[.int .i64 0,.int .i64 0] 143)) 0 0 143
  rw [World.size_alloc,World.size_alloc] at h;exact h
set_option maxRecDepth 100000 in
set_option maxHeartbeats 1600000 in
theorem leftOf_any (A:Option Addr) (n c:Nat) (zs:List Int) (B:Option Addr) (q d:Nat) (ls:List Int) (k:Int) (w:World) (h:RecsAt w w.heap.size 4 A n zs) (hn:n≤1048576) (hl:RecsAt w w.heap.size 3 B q ls) (hq:q≤1048576) :
  Calls Tryzx.prog 109 #[.agg #[.slice A n c],.slice B q d,.int .i64 k] w fun e w'=>e = .returned (.agg #[.int .i64 (lfW zs n ls q k),.int .i64 (lfM zs n ls q k)])∧Below w.heap.size w w':=by
 have ST:=leftStart w (.slice A n c) 26;have h0:=((h.alloc (Nat.le_refl _) (.cells #[.slice A n c] 26)).mono (B':=(w.alloc (.cells #[.slice A n c] 26)).heap.size) (by simp));have h1:=(h0.after ((Below.refl _ _).alloc (Nat.le_refl _) (.cells #[.int .i64 0,.int .i64 0] 143))).after ((Below.refl _ _).alloc (Nat.le_refl _) (.cells #[.int .i64 0,.int .i64 0] 143));have l0:=((hl.alloc (Nat.le_refl _) (.cells #[.slice A n c] 26)).mono (B':=(w.alloc (.cells #[.slice A n c] 26)).heap.size) (by simp));have l1:=(l0.after ((Below.refl _ _).alloc (Nat.le_refl _) (.cells #[.int .i64 0,.int .i64 0] 143))).after ((Below.refl _ _).alloc (Nat.le_refl _) (.cells #[.int .i64 0,.int .i64 0] 143));have HST:=Lib.hid ST;clear h0 l0 h hl ST;cases hL:loadsB zs n ls q
 ·have HF:=Lib.hid (lf_f (lfB_1 k hL))
  go_enter Tryzx.func109,Tryz.ntmps109;go_wp2_with fail
  refine (iLoadsOk_any _ _ _ zs _ _ _ ls _ h1 hn l1 hq).mono ?_;rw [hL];rintro e w1 ⟨rfl,hb1⟩;have HS1:=Lib.hid (HST.out.after hb1);have c0:=HS1.out.sum.cell (i:=0) (by omega);have c1:=HS1.out.sum.cell (i:=1) (by omega);have d0:=HS1.out.res.cell (i:=0) (by omega);have d1:=HS1.out.res.cell (i:=1) (by omega);have f0:=HS1.out.res.frozen 0;have f1:=HS1.out.res.frozen 1;have r0:ints [0,0] 0 = .int .i64 0:=rfl;have r1:ints [0,0] 1 = .int .i64 0:=rfl;rw [r0] at c0 d0;rw [r1] at c1 d1;clear hb1 r0 r1;go_wp2;refine bodyPost_ret (v := .agg #[.int .i64 0,.int .i64 0]) (by simp [results,Tryz.results109,go_sem, *]) rfl ⟨by rw [HF.out.1,HF.out.2],?_⟩;exact (HS1.out.below.setCell (p:=⟨w.heap.size+1,0,none⟩) (by simp) _).setCell (p:=⟨w.heap.size+1,1,none⟩) (by simp) _
 ·obtain ⟨hA,hq6,hLA⟩:=loadsB_out hL
  have hn8:=(archB_out hA).1;have e1:IntKind.i64.wrap ((n:Int) - 1)=(n:Int) - 1:=IntWalk.i64_in _ (by omega);clear hA hLA;cases hK:inB k 0 ((n:Int) - 1)
  ·have HF:=Lib.hid (lf_f (lfB_2 zs ls q hK))
   go_enter Tryzx.func109,Tryz.ntmps109;go_wp2_with fail
   refine (iLoadsOk_any _ _ _ zs _ _ _ ls _ h1 hn l1 hq).mono ?_;rw [hL];rintro e w1 ⟨rfl,hb1⟩;have HS1:=Lib.hid (HST.out.after hb1);have c0:=HS1.out.sum.cell (i:=0) (by omega);have c1:=HS1.out.sum.cell (i:=1) (by omega);have d0:=HS1.out.res.cell (i:=0) (by omega);have d1:=HS1.out.res.cell (i:=1) (by omega);have f0:=HS1.out.res.frozen 0;have f1:=HS1.out.res.frozen 1;have r0:ints [0,0] 0 = .int .i64 0:=rfl;have r1:ints [0,0] 1 = .int .i64 0:=rfl;have bx:=HS1.out.box.1;rw [r0] at c0 d0;rw [r1] at c1 d1;clear hb1 r0 r1;go_wp2_with (go_at_call 76; refine (within_any _ _ _ _).mono ?_; rw [hK]; rintro e w' ⟨rfl,rfl⟩);refine bodyPost_ret (v := .agg #[.int .i64 0,.int .i64 0]) (by simp [results,Tryz.results109,go_sem, *]) rfl ⟨by rw [HF.out.1,HF.out.2],?_⟩;exact (HS1.out.below.setCell (p:=⟨w.heap.size+1,0,none⟩) (by simp) _).setCell (p:=⟨w.heap.size+1,1,none⟩) (by simp) _
  ·have hk:=inB_iff.1 hK
   obtain ⟨K,rfl⟩:∃ K:Nat,k=(K:Int):=⟨k.toNat,by omega⟩;have HT:=Lib.hid (lf_t (lfB_t hL hK));obtain ⟨m,rfl⟩:∃ m,n=m+1:=⟨n - 1,by omega⟩;have hKm:K≤m:=by omega
   have HWB:=Lib.hid (leftW_bd zs (loadsB_out hL).2.2 hq6);have HMB:=Lib.hid (leftM_bd zs (loadsB_out hL).2.2 hq6);have HKB:=Lib.hid (fun k=>kwTo_bd zs (loadsB_out hL).2.2 hq6 k (Nat.le_refl q));have HNB:=Lib.hid (fun k=>kmTo_bd zs (loadsB_out hL).2.2 hq6 k (Nat.le_refl q));have hK':inB (K:Int) 0 (m:Int)=true:=inB_t (by omega);clear hk hK;go_enter Tryzx.func109,Tryz.ntmps109;go_wp2_with fail
   refine (iLoadsOk_any _ _ _ zs _ _ _ ls _ h1 hn l1 hq).mono ?_;rw [hL];rintro e w1 ⟨rfl,hb1⟩;have HS1:=Lib.hid (HST.out.after hb1);have bx:=HS1.out.box.1;have h2:=h1.after hb1;have l2:=l1.after hb1;clear hb1;go_wp2_with (go_at_call 76; refine (within_any _ _ _ _).mono ?_; rw [hK']; rintro e w' ⟨rfl,rfl⟩);refine (weightsOf_any _ _ _ zs _ _ _ ls _ h2 l2 hL).mono ?_;rintro e w2 ⟨g,rfl,hg,hrw,hb2⟩;have HS2:=Lib.hid (HS1.out.after hb2);have HRW:=Lib.hid hrw;have hrr:=HS2.out.sum.lt;have hgs:w.heap.size+2<g:=by have:=HS1.out.sum.lt; omega
   have s0:(0:Int)≤(K:Int):=by omega
   have s1:(K:Int)≤((m+1 - 1:Nat):Int):=by omega
   have s2:(K:Int)≤(m:Int):=by omega
   clear hb2 hrw h1 l1 h2 l2 HS1 HST bx hg;rw [Nat.add_sub_cancel] at *
   go_wp2;have HS0:Hid (RowF w2 (w.heap.size+2) 143 2 (ints [leftW zs ls q 0,leftM zs ls q 0])):=HS2.out.sum;go_loopw [30] (fun i wr=>∃ j:Nat,j≤K∧i = .int .i64 j∧Hid (LeftStart w wr (.slice A (m+1) c) (leftW zs ls q j) (leftM zs ls q j))∧Hid (RowF wr g 143 (m*2) (ints (wmL zs ls q m)))) (fun i _=>K - (intOf i).toNat)
   case atStart=>exact ⟨0,Nat.zero_le _,rfl,HS2,HRW⟩
   case round =>
    clear HS2 HRW HS0;obtain ⟨j,hj,rfl,HS,HR⟩:=hrel;by_cases hlt:j<K
    ·have hz:=HS.out.sum.lt
     have hgl:=HR.out.lt;have x0:=HR.out.cell (i:=j*2) (by omega);have x1:=HR.out.cell (i:=j*2+1) (by omega);have hn:=wmL_nth zs ls q (m:=m) (k:=j) (by omega);rw [ints_def,hn.1] at x0;rw [ints_def,hn.2] at x1;have c0:wr.cell? ⟨w.heap.size+2,0,none⟩=some (.int .i64 (leftW zs ls q j)):=HS.out.sum.cell (by omega);have c1:wr.cell? ⟨w.heap.size+2,1,none⟩=some (.int .i64 (leftM zs ls q j)):=HS.out.sum.cell (by omega);have f0:=HS.out.sum.frozen 0;have f1:=HS.out.sum.frozen 1;have HSA:=Lib.hid (HS.out.after ((Below.refl _ _).alloc (Nat.le_refl _) (.cells #[.int .i64 (kwTo zs ls j q),.int .i64 (kmTo zs ls j q)] 143)));have HRA:=Lib.hid (HR.out.alloc (.cells #[.int .i64 (kwTo zs ls j q),.int .i64 (kmTo zs ls j q)] 143));have hw1:=HWB.out j;have hw2:=HMB.out j;have hw3:=HKB.out j;have hw4:=HNB.out j;have HW1:Hid (leftW zs ls q (j+1)=leftW zs ls q j+kwTo zs ls j q):=rfl;have HM1:Hid (leftM zs ls q (j+1)=leftM zs ls q j+kmTo zs ls j q):=rfl;have js:(0:Int)≤(j:Int):=by omega
     have js1:(j:Int)<(K:Int):=by omega
     clear hn;go_wp2;go_roundw
     case rel=>exact ⟨j+1,by omega,by go_num,Lib.hid ((HS.out.set _ _).after ((Below.refl _ _).alloc (Nat.le_refl _) _)),Lib.hid (((HR.out.set_other (by simp; omega) _).set_other (by simp; omega) _).alloc _)⟩
     case measure=>simp [intOf]; omega
    ·obtain rfl:K=j:=by omega
     have c0:wr.cell? ⟨w.heap.size+2,0,none⟩=some (.int .i64 (leftW zs ls q K)):=HS.out.sum.cell (by omega);have c1:wr.cell? ⟨w.heap.size+2,1,none⟩=some (.int .i64 (leftM zs ls q K)):=HS.out.sum.cell (by omega);have d0:wr.cell? ⟨w.heap.size+1,0,none⟩=some (.int .i64 0):=HS.out.res.cell (by omega);have d1:wr.cell? ⟨w.heap.size+1,1,none⟩=some (.int .i64 0):=HS.out.res.cell (by omega);have f0:=HS.out.res.frozen 0;have f1:=HS.out.res.frozen 1;go_wp2;refine bodyPost_ret (v := .agg #[.int .i64 (leftW zs ls q K),.int .i64 (leftM zs ls q K)]) (by simp [results,Tryz.results109,go_sem, *]) rfl ⟨by rw [HT.out.1,HT.out.2],?_⟩;exact (HS.out.below.setCell (p:=⟨w.heap.size+1,0,none⟩) (by simp) _).setCell (p:=⟨w.heap.size+1,1,none⟩) (by simp) _
end X
namespace X
open Go.RowKit
set_option maxRecDepth 100000 in
set_option maxHeartbeats 1600000 in
theorem pushOk_any (A:Option Addr) (n c:Nat) (zs:List Int) (B:Option Addr) (q d:Nat) (ls:List Int) (H V M D k:Int) (w:World) (h:RecsAt w w.heap.size 4 A n zs) (hn:n≤1048576) (hl:RecsAt w w.heap.size 3 B q ls) (hq:q≤1048576) :
  Calls Tryzx.prog 108 #[.agg #[.slice A n c],.slice B q d,.agg #[.int .i64 H,.int .i64 V,.int .i64 M,.int .i64 D],.int .i64 k] w fun e w'=>e = .returned (.bool (pushB zs n ls q H V M D k))∧Below w.heap.size w w':=by
 have at0:=AT.start w (.slice A n c) H V M D 26 31;have b0:=at_below w (.slice A n c) H V M D 26 31;have h1:=h.after b0;have l1:=hl.after b0;have HAT:=Lib.hid at0;clear at0 b0 h hl;cases hL:loadsB zs n ls q
 ·have HF:=Lib.hid (pushB_1 H V M D k hL)
  go_enter Tryzx.func108,Tryz.ntmps108;go_wp2_with fail
  refine (iLoadsOk_any _ _ _ zs _ _ _ ls _ h1 hn l1 hq).mono ?_;rw [hL];rintro e w1 ⟨rfl,hb1⟩;have HB1:=Lib.hid (HAT.out.after hb1).below;clear hb1;go_wp2;go_ret;exact ⟨ret_bool HF.out.symm,HB1.out⟩
 have hn8:=(archB_out (loadsB_out hL).1).1;have e1:IntKind.i64.wrap ((n:Int) - 1)=(n:Int) - 1:=IntWalk.i64_in _ (by omega);cases hT:thrB H V M D
 ·have HF:=Lib.hid (pushB_2 zs n ls q k hT)
  go_enter Tryzx.func108,Tryz.ntmps108;go_wp2_with fail
  refine (iLoadsOk_any _ _ _ zs _ _ _ ls _ h1 hn l1 hq).mono ?_;rw [hL];rintro e w1 ⟨rfl,hb1⟩;have HA1:=Lib.hid (HAT.out.after hb1);have c0:=HA1.out.thr.1.1;have c1:=HA1.out.thr.1.2.1;have c2:=HA1.out.thr.1.2.2.1;have c3:=HA1.out.thr.1.2.2.2;clear hb1;go_wp2_with fail
  refine (iThrustOk_any _ _ _ _ _).mono ?_;rw [hT];rintro e w2 ⟨rfl,hb2⟩;have HB2:=Lib.hid (HA1.out.after hb2).below;clear hb2;go_wp2;go_ret;exact ⟨ret_bool HF.out.symm,HB2.out⟩
 have HF:Hid (inB k 0 ((n:Int) - 1)=pushB zs n ls q H V M D k):=by
  show _=_
  simp [pushB,hL,hT]
 go_enter Tryzx.func108,Tryz.ntmps108;go_wp2_with fail
 refine (iLoadsOk_any _ _ _ zs _ _ _ ls _ h1 hn l1 hq).mono ?_;rw [hL];rintro e w1 ⟨rfl,hb1⟩;have HA1:=Lib.hid (HAT.out.after hb1);have c0:=HA1.out.thr.1.1;have c1:=HA1.out.thr.1.2.1;have c2:=HA1.out.thr.1.2.2.1;have c3:=HA1.out.thr.1.2.2.2;clear hb1;go_wp2_with fail
 refine (iThrustOk_any _ _ _ _ _).mono ?_;rw [hT];rintro e w2 ⟨rfl,hb2⟩;have HA2:=Lib.hid (HA1.out.after hb2);have c4:=HA2.out.arch.1;clear hb2 c0 c1 c2 c3;go_wp2_with (go_at_call 76; refine (within_any _ _ _ _).mono ?_; rintro e w' ⟨rfl,rfl⟩);go_ret;exact ⟨ret_bool HF.out,HA2.out.below⟩
set_option maxRecDepth 100000 in
set_option maxHeartbeats 1600000 in
theorem l09Ok_any (A:Option Addr) (n c:Nat) (zs:List Int) (B:Option Addr) (q d:Nat) (ls:List Int) (H V M D k:Int) (w:World) (h:RecsAt w w.heap.size 4 A n zs) (hn:n≤1048576) (hl:RecsAt w w.heap.size 3 B q ls) (hq:q≤1048576) :
  Calls Tryzx.prog 115 #[.agg #[.slice A n c],.slice B q d,.agg #[.int .i64 H,.int .i64 V,.int .i64 M,.int .i64 D],.int .i64 k] w fun e w'=>e = .returned (.bool (pushB zs n ls q H V M D k))∧Below w.heap.size w w':=by
 have at0:=AT.start w (.slice A n c) H V M D 26 31;have b0:=at_below w (.slice A n c) H V M D 26 31;have h1:=h.after b0;have l1:=hl.after b0;have HAT:=Lib.hid at0;clear at0 b0 h hl;cases hL:loadsB zs n ls q
 ·have HF:=Lib.hid (pushB_1 H V M D k hL)
  go_enter Tryzx.func115,Tryz.ntmps115;go_wp2_with fail
  refine (sLoadsOk_any _ _ _ zs _ _ _ ls _ h1 hn l1 hq).mono ?_;rw [hL];rintro e w1 ⟨rfl,hb1⟩;have HB1:=Lib.hid (HAT.out.after hb1).below;clear hb1;go_wp2;go_ret;exact ⟨ret_bool HF.out.symm,HB1.out⟩
 have hn8:=(archB_out (loadsB_out hL).1).1;have e1:IntKind.i64.wrap ((n:Int) - 1)=(n:Int) - 1:=IntWalk.i64_in _ (by omega);cases hT:thrB H V M D
 ·have HF:=Lib.hid (pushB_2 zs n ls q k hT)
  go_enter Tryzx.func115,Tryz.ntmps115;go_wp2_with fail
  refine (sLoadsOk_any _ _ _ zs _ _ _ ls _ h1 hn l1 hq).mono ?_;rw [hL];rintro e w1 ⟨rfl,hb1⟩;have HA1:=Lib.hid (HAT.out.after hb1);have c0:=HA1.out.thr.1.1;have c1:=HA1.out.thr.1.2.1;have c2:=HA1.out.thr.1.2.2.1;have c3:=HA1.out.thr.1.2.2.2;clear hb1;go_wp2_with fail
  refine (sThrustOk_any _ _ _ _ _).mono ?_;rw [hT];rintro e w2 ⟨rfl,hb2⟩;have HB2:=Lib.hid (HA1.out.after hb2).below;clear hb2;go_wp2;go_ret;exact ⟨ret_bool HF.out.symm,HB2.out⟩
 have HF:Hid (inB k 0 ((n:Int) - 1)=pushB zs n ls q H V M D k):=by
  show _=_
  simp [pushB,hL,hT]
 go_enter Tryzx.func115,Tryz.ntmps115;go_wp2_with fail
 refine (sLoadsOk_any _ _ _ zs _ _ _ ls _ h1 hn l1 hq).mono ?_;rw [hL];rintro e w1 ⟨rfl,hb1⟩;have HA1:=Lib.hid (HAT.out.after hb1);have c0:=HA1.out.thr.1.1;have c1:=HA1.out.thr.1.2.1;have c2:=HA1.out.thr.1.2.2.1;have c3:=HA1.out.thr.1.2.2.2;clear hb1;go_wp2_with fail
 refine (sThrustOk_any _ _ _ _ _).mono ?_;rw [hT];rintro e w2 ⟨rfl,hb2⟩;have HA2:=Lib.hid (HA1.out.after hb2);have c4:=HA2.out.arch.1;clear hb2 c0 c1 c2 c3;go_wp2_with (go_at_call 97; refine (l01In_any _ _ _ _).mono ?_; rintro e w' ⟨rfl,rfl⟩);go_ret;exact ⟨ret_bool HF.out,HA2.out.below⟩
set_option maxRecDepth 100000 in
set_option maxHeartbeats 1600000 in
theorem l09Moment_any (H V M D W Mo px py:Int) (w:World) (h:MomBd H V M D W Mo px py) :
  Calls Tryzx.prog 116 #[.agg #[.int .i64 H,.int .i64 V,.int .i64 M,.int .i64 D],.int .i64 W,.int .i64 Mo,.agg #[.int .i64 px,.int .i64 py]] w fun e w'=>e = .returned (.int .i64 (momI H V M D W Mo px py))∧Below w.heap.size w w':=by
 obtain ⟨h1,h2,h3,h4,h5,h6⟩:=h;have HE:Hid (M - D*Mo - px*(V - D*W)+py*H=momI H V M D W Mo px py):=rfl;have e1:IntKind.i64.wrap (D*Mo)=D*Mo:=IntWalk.i64_in _ (by omega);have e2:IntKind.i64.wrap (D*W)=D*W:=IntWalk.i64_in _ (by omega);have e3:IntKind.i64.wrap (px*(V - D*W))=px*(V - D*W):=IntWalk.i64_in _ (by omega);have e4:IntKind.i64.wrap (py*H)=py*H:=IntWalk.i64_in _ (by omega);go_enter Tryzx.func116,Tryz.ntmps116;go_wp2;go_ret;exact ⟨ret_int HE.out,((Below.refl _ _).alloc (Nat.le_refl _) _).alloc (by simp) _⟩
structure MCap (w:World) (gt gl gu:Nat) (H V M D W Mo:Int):Prop where
 thr:Box4 w gt H V M D
 left:w.cell? ⟨gl,0,none⟩=some (.int .i64 W)∧w.cell? ⟨gl,1,none⟩=some (.int .i64 Mo)∧gl<w.heap.size
 up:w.cell? ⟨gu,0,none⟩=some (.int .i64 (V - D*W))∧gu<w.heap.size
theorem MCap.after {w w1:World} {gt gl gu:Nat} {H V M D W Mo:Int} (h:MCap w gt gl gu H V M D W Mo) (hb:Below w.heap.size w w1):MCap w1 gt gl gu H V M D W Mo :=
 ⟨h.thr.after hb,⟨(hb.cell (p:=⟨gl,0,none⟩) h.left.2.2).trans h.left.1,(hb.cell (p:=⟨gl,1,none⟩) h.left.2.2).trans h.left.2.1,Nat.lt_of_lt_of_le h.left.2.2 hb.size⟩,⟨(hb.cell (p:=⟨gu,0,none⟩) h.up.2).trans h.up.1,Nat.lt_of_lt_of_le h.up.2 hb.size⟩⟩
set_option maxRecDepth 100000 in
set_option maxHeartbeats 1600000 in
theorem moment1_any (gt gl gu:Nat) (H V M D W Mo px py:Int) (w:World) (hc:MCap w gt gl gu H V M D W Mo) (h:MomBd H V M D W Mo px py) :
  Calls Tryzx.prog 110 #[.agg #[.int .i64 px,.int .i64 py],.pointer (some ⟨gt,0,none⟩),.pointer (some ⟨gl,0,none⟩),.pointer (some ⟨gu,0,none⟩)] w fun e w'=>e = .returned (.int .i64 (momI H V M D W Mo px py))∧Below w.heap.size w w':=by
 obtain ⟨h1,h2,h3,h4,h5,h6⟩:=h;have HE:Hid (M - D*Mo - px*(V - D*W)+py*H=momI H V M D W Mo px py):=rfl;have e1:IntKind.i64.wrap (D*Mo)=D*Mo:=IntWalk.i64_in _ (by omega);have e3:IntKind.i64.wrap (px*(V - D*W))=px*(V - D*W):=IntWalk.i64_in _ (by omega);have e4:IntKind.i64.wrap (py*H)=py*H:=IntWalk.i64_in _ (by omega);obtain ⟨⟨⟨t0,t1,t2,t3⟩,tl⟩,⟨l0,l1,ll⟩,⟨u0,ul⟩⟩:=hc;have HU:Hid (∀ x,x=V - D*W → -720000000000000≤px*x∧px*x≤720000000000000∧M - D*Mo - px*x+py*H=momI H V M D W Mo px py):=fun x hx=>by subst hx; exact ⟨h5.1,h5.2,rfl⟩
 go_enter Tryzx.func110,Tryz.ntmps110;go_wp2;go_ret;exact ⟨ret_int HE.out,(Below.refl _ _).alloc (Nat.le_refl _) _⟩
end X
end Go.Proofs.YtpblihmhpalkfaaGreat
