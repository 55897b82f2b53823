/-
  Texts that the law stands on, part 3.
-/
import Derived.Test.YtpblihmhpalkfaaGreatRangesP1
import Derived.Test.YtpblihmhpalkfaaGreatRangesP2
import Derived.Test.YtpblihmhpalkfaaGreatJ10
import Derived.Test.YtpblihmhpalkfaaGreatJ11
import Derived.Test.YtpblihmhpalkfaaGreatJ17
import Derived.Test.YtpblihmhpalkfaaGreatJ18
import Derived.Test.YtpblihmhpalkfaaGreatJ20
import Derived.Test.YtpblihmhpalkfaaGreatJ21
set_option maxRecDepth 100000
set_option linter.unusedVariables false
set_option linter.unusedSimpArgs false
namespace Go.Proofs.YtpblihmhpalkfaaGreat
namespace X
open Go.RowKit
def PickPost (w:World) (g:Nat) (A:Option Addr) (n c:Nat) (e:Ending) (w':World):Prop :=
 ∃ x:Int,e = .returned (.int .i64 x)∧CurAt w' g A n c∧Only g w w'
set_option maxRecDepth 100000 in
set_option maxHeartbeats 1600000 in
theorem l01PickInt_any (g:Nat) (A:Option Addr) (n c:Nat) (zs:List Int) (p m d:Nat) (L:List Int) (w:World) (h:BytesAt w g A n zs) (hn:n≤1048576) (hc:CurAt w g A n c) (hp:p ≠ g) (hr:RowF w p 3 m (ints L)) (h0:0<m) (h1:m≤256) :
  Calls Tryzx.prog 119 #[.pointer (some ⟨g,0,none⟩),.slice (some ⟨p,0,none⟩) m d] w (PickPost w g A n c):=by
 have HR:=Lib.hid hr;have HP:=Lib.hid hp;clear hr hp;go_enter Tryzx.func119,Tryz.ntmps119;go_wp2_with fail
 refine (l01Below_any g A n c zs (m:Int) _ h hn hc (by omega) (by omega)).mono ?_;rintro e w1 ⟨x,rfl,x0,x1,hc1,ho1⟩;obtain ⟨i,rfl⟩:=Int.eq_ofNat_of_zero_le x0;have y0:w1.cell? ⟨p,i,none⟩=some (.int .i64 (nth L i)):=(HR.out.only ho1 HP.out).cell (i:=i) (by omega);have HC:=Lib.hid hc1;have HO:=Lib.hid ho1;clear hc1 ho1 h hc;go_wp2;go_ret;exact ⟨_,rfl,HC.out,HO.out⟩
structure LdSt (w wr:World) (g:Nat) (A:Option Addr) (n c:Nat) (zs:List Int) (b m d:Nat) (Z:List Int) (v:Value) (k:Nat) (L:List Int):Prop where
 box:RowF wr w.heap.size 26 1 (fun _ => .slice (some ⟨b,0,none⟩) m d)
 row:RowF wr b 45 (m*4) (ints Z)
 own:OwnR wr (w.heap.size+1) 154 3 v k L
 far:g<b∧b<w.heap.size
 cur:CurAt wr g A n c
 code:BytesAt wr g A n zs
 below:Below g w wr
 keep:KeepB g w.heap.size w wr
section
variable {w wr w' : World} {g : Nat} {A : Option Addr} {n c : Nat} {zs : List Int} {b m d : Nat} {Z : List Int} {v : Value} {k : Nat} {L : List Int}
theorem LdSt.only (h:LdSt w wr g A n c zs b m d Z v k L) (ho:Only g wr w') (hc:CurAt w' g A n c):LdSt w w' g A n c zs b m d Z v k L :=
 ⟨h.box.only ho (by have:=h.far; omega),h.row.only ho (by have:=h.far; omega),h.own.onlyB ho (by have:=h.far; omega),h.far,hc,h.code.only ho (Nat.le_refl _),h.below.trans (ho.below (Nat.le_refl _)),h.keep.only ho⟩
theorem LdSt.after (h:LdSt w wr g A n c zs b m d Z v k L) (hb:Below wr.heap.size wr w'):LdSt w w' g A n c zs b m d Z v k L :=
 ⟨h.box.after hb,h.row.after hb,h.own.below hb,h.far,h.cur.after hb,h.code.below (hb.mono (by have:=h.far; have:=h.below.size; omega)),h.below.trans (hb.mono (by have:=h.far; have:=h.below.size; omega)),h.keep.belowB hb h.below.size⟩
theorem LdSt.drew (h:LdSt w wr g A n c zs b m d Z v k L):LdSt w wr.drew g A n c zs b m d Z v k L :=
 ⟨h.box,h.row,h.own,h.far,h.cur,h.code,below_drewN h.below 1,h.keep⟩
theorem LdSt.grow {v':Value} {k':Nat} {L':List Int} (h:LdSt w wr g A n c zs b m d Z v k L) (hb:Below (w.heap.size+1) wr w') (ho:OwnR w' (w.heap.size+1) 154 3 v' k' L'):LdSt w w' g A n c zs b m d Z v' k' L':=by
 have hf:=h.far;refine ⟨RowF.below h.box hb (by omega),RowF.below h.row hb (by omega),ho,h.far,?_,h.code.below (hb.mono (by omega)),h.below.trans (hb.mono (by omega)),h.keep.belowB hb (by omega)⟩;obtain ⟨i,x,hi,hcc⟩:=h.cur;exact ⟨i,x,hi,RowF.below hcc hb (by omega)⟩
end
def LdPost (w:World) (g:Nat) (A:Option Addr) (n c:Nat) (b m:Nat) (Z:List Int) (e:Ending) (w':World):Prop :=
 ∃ (v:Value) (k:Nat) (L:List Int),e = .returned v∧k≤4∧OwnR w' w.heap.size 154 3 v k L∧RowF w' b 45 (m*4) (ints Z)∧CurAt w' g A n c∧KeepB g w.heap.size w w'∧Below g w w'
theorem rowF_new3L (w:World) (a b c:Int) (T:TypeId):RowF (w.alloc (.cells #[.int .i64 a,.int .i64 b,.int .i64 c] T)) w.heap.size T 3 (ints [a,b,c]) :=
 RowF.of_row (World.rowIs_alloc w #[.int .i64 a,.int .i64 b,.int .i64 c] T _ (fun j hj=>by simp at hj; match j,hj with | 0,_=>rfl | 1,_=>rfl | 2,_=>rfl))
set_option maxRecDepth 100000 in
set_option maxHeartbeats 6400000 in
theorem l07Loads_any (g:Nat) (A:Option Addr) (n c:Nat) (zs:List Int) (b m d:Nat) (Z:List Int) (w:World) (h:BytesAt w g A n zs) (hn:n≤1048576) (hc:CurAt w g A n c) (hg:g<b) (hb:b<w.heap.size) (hr:RowF w b 45 (m*4) (ints Z)) (hm:m≤8) :
  Calls Tryzx.prog 80 #[.pointer (some ⟨g,0,none⟩),.agg #[.slice (some ⟨b,0,none⟩) m d]] w (LdPost w g A n c b m Z):=by
 have HL0:Hid (LdSt w ((w.alloc (.cells #[.slice (some ⟨b,0,none⟩) m d] 26)).alloc (.cells #[] 154)) g A n c zs b m d Z (.slice (some ⟨w.heap.size+1,0,none⟩) 0 0) 0 []):=Lib.hid (by
  have b1:Below w.heap.size w (w.alloc (.cells #[.slice (some ⟨b,0,none⟩) m d] 26)):=(Below.refl _ _).alloc (Nat.le_refl _) _;have b2:=b1.alloc (o := .cells #[] 154) b1.size;have ho:=OwnR.new (w.alloc (.cells #[.slice (some ⟨b,0,none⟩) m d] 26)) 154 3;rw [World.size_alloc] at ho;exact ⟨(rowF_new1S w _ _).alloc _,hr.after b2,ho,⟨hg,hb⟩,hc.after b2,h.below (b2.mono (by omega)),b2.mono (by omega),fun k hk _=>b2.block k hk⟩)
 clear h hc hr;go_enter Tryzx.func80,Tryz.ntmps80;go_wp2_with fail
 refine (l01Below_any g A n c zs 4 _ HL0.out.code hn HL0.out.cur (by omega) (by omega)).mono ?_;rintro e w1 ⟨x,rfl,x0,x1,hc1,ho1⟩;have HL1:=Lib.hid (HL0.out.only ho1 hc1);obtain ⟨q,rfl⟩:=Int.eq_ofNat_of_zero_le x0;clear hc1 ho1 HL0 x0;go_wp2;go_loopw [5,7] (fun v5 v7 wr=>∃ (k:Nat) (L:List Int) (A5:Option Addr) (c5:Nat),v5 = .slice A5 k c5∧v7 = .int .i64 k∧k≤q∧Hid (LdSt w wr g A n c zs b m d Z (.slice A5 k c5) k L)) (fun _ v7 _=>q - (intOf v7).toNat)
 case atStart=>exact ⟨0,[],_,_,rfl,rfl,Nat.zero_le _,HL1⟩
 case round =>
  clear HL1;obtain ⟨k,L,A5,c5,rfl,rfl,hk,HL⟩:=hrel;have bx:wr.cell? ⟨w.heap.size,0,none⟩=some (.slice (some ⟨b,0,none⟩) m d):=HL.out.box.cell (i:=0) (by omega);by_cases hlt:k<q
  ·have kq:(k:Int)<(q:Int):=by omega
   by_cases hm1:1<m
   ·have m1:(1:Int)<(m:Int):=by omega
    have e1:IntKind.i64.wrap ((m:Int) - 1)=(m:Int) - 1:=IntWalk.i64_in _ (by omega);have e2:IntKind.i64.wrap ((k:Int)+1)=(k:Int)+1:=IntWalk.i64_in _ (by omega);go_wp2_with fail
    refine (l01Below_any g A n c zs ((m:Int) - 1) _ HL.out.code hn HL.out.cur (by omega) (by omega)).mono ?_;rintro e w2 ⟨x,rfl,y0,y1,hc2,ho2⟩;have HL2:=Lib.hid (HL.out.only ho2 hc2);obtain ⟨i,rfl⟩:=Int.eq_ofNat_of_zero_le y0;have hi:i<m:=by omega
    clear hc2 ho2 HL bx y0 y1;have HLA:=Lib.hid (HL2.out.after ((Below.refl _ _).alloc (Nat.le_refl _) (.cells #[.int .i64 0,.int .i64 6,.int .i64 20,.int .i64 60,.int .i64 200] 3)));have HRA:Hid (RowF (w2.alloc (.cells #[.int .i64 0,.int .i64 6,.int .i64 20,.int .i64 60,.int .i64 200] 3)) w2.heap.size 3 5 (ints [0,6,20,60,200])):=Lib.hid (rowF_lit w2 3 [0,6,20,60,200] 5 rfl);have hgl:w2.heap.size ≠ g:=by have:=HL2.out.far; have:=HL2.out.below.size; omega
    go_wp2_with fail
    refine (l01PickInt_any g A n c zs _ 5 _ _ _ HLA.out.code hn HLA.out.cur hgl HRA.out (by omega) (by omega)).mono ?_;rintro e w3 ⟨u,rfl,hc3,ho3⟩;have HL3:=Lib.hid (HLA.out.only ho3 hc3);clear hc3 ho3 HL2 HLA HRA hgl;have bx:w3.cell? ⟨w.heap.size,0,none⟩=some (.slice (some ⟨b,0,none⟩) m d):=HL3.out.box.cell (i:=0) (by omega);have jx:w3.cell? ⟨b,i*4+2,none⟩=some (.int .i64 (nth Z (i*4+2))):=HL3.out.row.cell (i:=i*4+2) (by omega);have im:(i:Int)<(m:Int):=by omega
    have i0:(0:Int)≤(i:Int):=by omega
    generalize nth Z (i*4+2)=jz at *
    go_wp2;refine wp_region_held_drew (S:=fun w'=>w'.cell? ⟨w.heap.size,0,none⟩=some (.slice (some ⟨b,0,none⟩) m d)∧w'.cell? ⟨b,i*4+2,none⟩=some (.int .i64 jz)) (by kernel_rfl) (by exact ⟨bx,jx⟩) (fun hHeld => ?_);refine take_heldS (i:=0) (d:=33) rfl rfl ?_;try simp only [Act.put,ly3]
    refine take_heldS (i:=1) (d:=34) rfl rfl ?_;try simp only [Act.put,ly3]
    refine take_heldS (i:=2) (d:=35) rfl rfl ?_;try simp only [Act.put,ly3]
    refine take_heldS (i:=3) (d:=36) rfl rfl ?_;try simp only [Act.put,ly3]
    refine take_heldS (i:=4) (d:=37) rfl rfl ?_;try simp only [Act.put,ly3]
    refine take_heldS (i:=5) (d:=38) rfl rfl ?_;try simp only [Act.put,ly3]
    refine take_heldS (i:=6) (d:=39) rfl rfl ?_;try simp only [Act.put,ly3]
    refine take_heldS (i:=7) (d:=40) rfl rfl ?_;try simp only [Act.put,ly3]
    refine take_heldS (i:=8) (d:=41) rfl rfl ?_;try simp only [Act.put,ly3]
    refine take_heldS (i:=9) (d:=42) rfl rfl ?_;try simp only [Act.put,ly3]
    refine take_heldS (i:=10) (d:=43) rfl rfl ?_;try simp only [Act.put,ly3]
    refine wpAnyH_ready (rs := [11]) (by kernel_rfl) (by simp) ?_;refine AllReadyH.cons rfl (fun K hK => ?_) AllReadyH.nil;go_simp
    refine (l01Below_any g A n c zs 4 _ HL3.out.drew.code hn HL3.out.drew.cur (by omega) (by omega)).mono ?_; rintro e w4 ⟨y,rfl,_,_,hc4,ho4⟩; have HL4:=Lib.hid (HL3.out.drew.only ho4 hc4);refine hK.out _ _ (by exact ⟨HL4.out.box.cell (i:=0) (by omega),(ho4.cell (p:=⟨b,i*4+2,none⟩) (by simp; have:=HL4.out.far; omega)).trans jx⟩) (fun hHeld => ?_)
    clear hK K;try simp only [Act.put,ly3]
    refine take_heldS (i:=12) (d:=45) rfl rfl ?_;try simp only [Act.put,ly3]
    refine take_heldS (i:=13) (d:=46) rfl rfl ?_;try simp only [Act.put,ly3]
    refine wpAnyH_ready (rs := [14]) (by kernel_rfl) (by simp) ?_;refine AllReadyH.cons rfl (fun K hK => ?_) AllReadyH.nil;go_simp
    skip
    refine hK.out _ _ (by exact ⟨(HL4.out.box.alloc _).cell (i:=0) (by omega),(cell_alloc_lt (RowF.lt HL4.out.row)).trans ((ho4.cell (p:=⟨b,i*4+2,none⟩) (by simp; have:=HL4.out.far; omega)).trans jx)⟩) (fun hHeld => ?_)
    clear hK K;try simp only [Act.put,ly3]
    refine wpAnyH_ready (rs := [15]) (by kernel_rfl) (by simp) ?_;refine AllReadyH.cons rfl (fun K hK => ?_) AllReadyH.nil;refine step_appR rfl (.tmp 33) (.tmp 47) 27 rfl (w.heap.size+1) 154 3 24 #[.int .i64 0,.int .i64 0,.int .i64 0] Tryzx.underlying27 infoLoad rfl (by decide) (by decide) _ k L rfl (by exact HL4.out.own.alloc _) w4.heap.size 1 1 [(i:Int),u,IntKind.i64.wrap (jz+y)] rfl rfl (by exact fun j hj=>(rowF_new3L w4 _ _ _ _).cell hj) (by omega) (w.heap.size+1) w4 (by exact (Below.refl _ _).alloc (by have:=HL4.out.below.size; have:=RowF.lt HL4.out.box; omega) _) (Nat.le_refl _) (by have:=RowF.lt HL4.out.box; simp; omega) _ rfl (by omega) ?_; intro g' cap' w5 hown5 hb5; have HL5:=Lib.hid (HL4.out.grow hb5 hown5);refine hK.out _ _ (by exact ⟨HL5.out.box.cell (i:=0) (by omega),(hb5.cell (p:=⟨b,i*4+2,none⟩) (by simp; have:=HL4.out.far; omega)).trans ((ho4.cell (p:=⟨b,i*4+2,none⟩) (by simp; have:=HL4.out.far; omega)).trans jx)⟩) (fun hHeld => ?_)
    clear hK K;try simp only [Act.put,ly3]
    refine take_heldS (i:=16) (d:=5) rfl rfl ?_;try simp only [Act.put,ly3]
    refine wpAnyH_done (by kernel_rfl) ?_ _;clear hc4 ho4 hown5 hb5 bx jx HL3 HL4;go_wp2;go_roundw
    case rel=>exact ⟨k+1,_,_,cap',rfl,by go_num,by omega,HL5⟩
    case measure=>simp [intOf]; omega
   ·have m1:¬ (1:Int)<(m:Int):=by omega
    go_wp2;go_ret;exact ⟨.slice A5 k c5,k,L,rfl,by omega,HL.out.own.weaken (by omega),HL.out.row,HL.out.cur,HL.out.keep,HL.out.below⟩
  ·have kq:¬ (k:Int)<(q:Int):=by omega
   go_wp2;go_ret;exact ⟨.slice A5 k c5,k,L,rfl,by omega,HL.out.own.weaken (by omega),HL.out.row,HL.out.cur,HL.out.keep,HL.out.below⟩
def RowX (w:World) (base:Nat) (E:TypeId) (K k:Nat) (A:Option Addr) (L:List Int):Prop:=L.length=k*K∧(k=0 ∨ ∃ g,A=some ⟨g,0,none⟩∧base≤g∧RowF w g E (k*K) (ints L))
section
variable {w w' : World} {base : Nat} {E : TypeId} {K k c : Nat} {A : Option Addr} {L : List Int}
theorem RowX.of (h:OwnR w base E K (.slice A k c) k L):RowX w base E K k A L:=by
 refine ⟨h.2,?_⟩;rcases h.form with ⟨_,h2,_⟩ | ⟨g,cap,e,hb,_,hr⟩
 ·exact .inl h2
 ·simp at e
  exact .inr ⟨g,e.1,hb,hr⟩
theorem RowX.recs (h:RowX w base E K k A L):RecsAt w w.heap.size K A k L:=by
 refine ⟨h.1,fun hm => ?_⟩;rcases h.2 with h2 | ⟨g,rfl,_,hr⟩
 ·omega
 ·exact ⟨g,0,rfl,RowF.lt hr,fun i hi=>by rw [Nat.zero_add]; exact hr.cell hi⟩
theorem RowX.after (h:RowX w base E K k A L) (hb:Below w.heap.size w w'):RowX w' base E K k A L :=
 ⟨h.1,h.2.imp id fun ⟨g,e,h2,hr⟩=>⟨g,e,h2,RowF.after hr hb⟩⟩
theorem RowX.set (h:RowX w base E K k A L) {p:Addr} (hp:p.block<base) (u:Value):RowX (w.setCell p u) base E K k A L :=
 ⟨h.1,h.2.imp id fun ⟨g,e,h2,hr⟩=>⟨g,e,h2,hr.set_other (by omega) u⟩⟩
theorem RowX.mono {base':Nat} (h:RowX w base E K k A L) (hb:base'≤base):RowX w base' E K k A L :=
 ⟨h.1,h.2.imp id fun ⟨g,e,h2,hr⟩=>⟨g,e,by omega,hr⟩⟩
end
theorem rowRecs {w:World} {b K m:Nat} {E:TypeId} {Z:List Int} (h:RowF w b E (m*K) (ints Z)) (hl:Z.length=m*K):RecsAt w w.heap.size K (some ⟨b,0,none⟩) m Z :=
 ⟨hl,fun _=>⟨b,0,rfl,RowF.lt h,fun i hi=>by rw [Nat.zero_add]; exact h.cell hi⟩⟩
def StPost (B base:Nat) (w:World) (e:Ending) (w':World):Prop :=
 ∃ (b m d:Nat) (Z:List Int) (A':Option Addr) (q cp:Nat) (L:List Int),e = .returned (.tuple #[.agg #[.slice (some ⟨b,0,none⟩) m d],.slice A' q cp])∧m≤8∧q≤4∧base<b∧Z.length=m*4∧archB Z m=true∧RowF w' b 45 (m*4) (ints Z)∧RowX w' (base+1) 154 3 q A' L∧Below B w w'
structure SdSt (w wr:World) (g:Nat) (A:Option Addr) (n c:Nat) (zs:List Int):Prop where
 res:RowF wr w.heap.size 26 1 (fun _ => .slice none 0 0)
 cur:CurAt wr g A n c
 code:BytesAt wr g A n zs
 below:Below g w wr
theorem SdSt.after {w wr w':World} {g:Nat} {A:Option Addr} {n c:Nat} {zs:List Int} (h:SdSt w wr g A n c zs) (hg:g<w.heap.size) (hb:Below wr.heap.size wr w'):SdSt w w' g A n c zs :=
 ⟨h.res.after hb,h.cur.after hb,h.code.below (hb.mono (by have:=h.below.size; omega)),h.below.trans (hb.mono (by have:=h.below.size; omega))⟩
theorem SdSt.next {w wr w':World} {g:Nat} {A:Option Addr} {n c:Nat} {zs:List Int} (h:SdSt w wr g A n c zs) (hr:RowF w' w.heap.size 26 1 (fun _ => .slice none 0 0)) (hc:CurAt w' g A n c) (hb:Below g wr w'):SdSt w w' g A n c zs :=
 ⟨hr,hc,h.code.below hb,h.below.trans hb⟩
set_option maxRecDepth 100000 in
set_option maxHeartbeats 6400000 in
theorem l12Standing_any (g:Nat) (A:Option Addr) (n c:Nat) (zs:List Int) (w:World) (h:BytesAt w g A n zs) (hn:n≤1048576) (hc:CurAt w g A n c) (hg:g<w.heap.size) :
  Calls Tryzx.prog 42 #[.pointer (some ⟨g,0,none⟩)] w (StPost g w.heap.size w):=by
 have HG:=Lib.hid hg;have HS0:Hid (SdSt w (w.alloc (.cells #[.slice none 0 0] 26)) g A n c zs):=Lib.hid (by
  have b1:Below w.heap.size w (w.alloc (.cells #[.slice none 0 0] 26)):=(Below.refl _ _).alloc (Nat.le_refl _) _;exact ⟨rowF_new1S _ _ _,hc.after b1,h.below (b1.mono (by omega)),b1.mono (by omega)⟩)
 clear h hc;go_enter Tryzx.func42,Tryz.ntmps42;go_wp2;go_loopw [4] (fun v4 wr=>∃ k:Nat,v4 = .int .i64 k∧k≤5∧Hid (SdSt w wr g A n c zs)) (fun v4 _=>5 - (intOf v4).toNat)
 case atStart=>exact ⟨0,rfl,Nat.zero_le _,HS0⟩
 case round =>
  clear HS0;obtain ⟨k,rfl,hk,HS⟩:=hrel;by_cases hlt:k<5
  ·have k5:(k:Int)<5:=by omega
   have e2:IntKind.i64.wrap ((k:Int)+1)=(k:Int)+1:=IntWalk.i64_in _ (by omega);have hgl:g<wr.heap.size:=by have:=HS.out.below.size; omega
   have hwl:w.heap.size<wr.heap.size:=RowF.lt HS.out.res;go_wp2_with fail
   refine (l06Arch_keep g A n c zs _ HS.out.code hn HS.out.cur hgl).mono ?_;rintro e w1 ⟨b,m,d,Z,rfl,hb,hmd,hr,hl,ho,hcc,hkp,hb1⟩;have HS1:=Lib.hid (HS.out.next (hkp.row HS.out.res hwl (by omega)) hcc hb1);have hm8:=(archB_out ho).1;have hgb:g<b:=by omega
   have hs1:=hb1.size;have ba:Below w1.heap.size w1 (w1.alloc (.cells #[.slice (some ⟨b,0,none⟩) m d] 26)):=(Below.refl _ _).alloc (Nat.le_refl _) _;have HS2:=Lib.hid (HS1.out.after HG.out ba);have HR2:=Lib.hid (hr.after ba);have HX2:=Lib.hid (rowF_new1S w1 (.slice (some ⟨b,0,none⟩) m d) 26);have hbl:b<w1.heap.size:=RowF.lt hr;have hrz:Hid (Z.length=m*4∧archB Z m=true):=Lib.hid ⟨hl,ho⟩;obtain ⟨X,hX⟩:∃ X,w1.heap.size=X:=⟨_,rfl⟩;have hs2:(w1.alloc (.cells #[.slice (some ⟨b,0,none⟩) m d] 26)).heap.size=X+1:=by simp [hX]
   have HZ2:=Lib.hid hs2;rw [hX] at HX2 hbl hs1;have HXE:=Lib.hid hX;clear hr hl ho hcc hkp hb1 ba HS HS1 hs2 hX;go_wp2_with fail
   refine (l07Loads_any g A n c zs b m d Z _ HS2.out.code hn HS2.out.cur hgb (by rw [HZ2.out]; omega) HR2.out hm8.2).mono ?_
   rintro e w3 ⟨v,q,L,rfl,hq,ho3,hr3,hc3,hk3,hb3⟩;have HS3:=Lib.hid (HS2.out.next (hk3.row HS2.out.res (by rw [HZ2.out]; omega) (by omega)) hc3 hb3)
   have HX3:=Lib.hid (hk3.row HX2.out (by rw [HZ2.out]; omega) (by omega))
   obtain ⟨A',cp,rfl,_⟩:=ho3.slice;have HL3:Hid (RowX w3 (w.heap.size+1) 154 3 q A' L):=Lib.hid ((RowX.of ho3).mono (by rw [HZ2.out]; omega))
   have HR3:=Lib.hid hr3;have xb:w3.cell? ⟨w1.heap.size,0,none⟩=some (.slice (some ⟨b,0,none⟩) m d):=by rw [HXE.out]; exact HX3.out.cell (i:=0) (by omega)
   clear hc3 hk3 hb3 ho3 hr3 HS2 HX2 HR2;go_wp2_with fail
   refine (sStd_any _ _ _ Z _ _ _ L _ (rowRecs HR3.out hrz.out.1) (by omega) HL3.out.recs (by omega)).mono ?_;generalize decide (0<(thrN Z m L q:Int))=bb;rintro e w4 ⟨rfl,hb4⟩;have HS4:=Lib.hid (HS3.out.after HG.out hb4);have HX4:=Lib.hid (HX3.out.after hb4);have HR4:=Lib.hid (HR3.out.after hb4);have HL4:=Lib.hid (HL3.out.after hb4);clear hb4 HS3 HX3 HR3 HL3 xb;have xb:w4.cell? ⟨w1.heap.size,0,none⟩=some (.slice (some ⟨b,0,none⟩) m d):=by rw [HXE.out]; exact HX4.out.cell (i:=0) (by omega)
   cases bb
   ·go_wp2
    go_roundw
    case rel=>exact ⟨k+1,by go_num,by omega,HS4⟩
    case measure=>simp [intOf]; omega
   ·have d0:w4.cell? ⟨w.heap.size,0,none⟩=some (.slice none 0 0):=HS4.out.res.cell (i:=0) (by omega)
    have f0:=HS4.out.res.frozen 0;have hs:=RowF.lt HS4.out.res;go_wp2;refine bodyPost_ret (v := .tuple #[.agg #[.slice (some ⟨b,0,none⟩) m d],.slice A' q cp]) (by simp [results,Tryz.results42,go_sem, *]) rfl ?_;exact ⟨b,m,d,Z,A',q,cp,L,rfl,hm8.2,hq,by omega,hrz.out.1,hrz.out.2,HR4.out.set_other (by simp; omega) _,HL4.out.set (by simp) _,HS4.out.below.setCell (by simp; omega) _⟩
  ·obtain rfl:k=5:=by omega
   have k5:¬ ((5:Nat):Int)<5:=by omega
   go_wp2_with fail
   refine (l06Shape_any 1 _ (by omega) (by omega)).mono ?_;rintro e w1 ⟨b,m,Z,rfl,hb,hr,hl,ho,hb1⟩;have HS1:=Lib.hid (HS.out.after HG.out hb1);have hwl:w.heap.size<wr.heap.size:=RowF.lt HS.out.res;have hm8:=(archB_out ho).1;have HR1:=Lib.hid hr;have hrz:Hid (Z.length=m*4∧archB Z m=true):=Lib.hid ⟨hl,ho⟩;have hs1:=hb1.size;have d0:w1.cell? ⟨w.heap.size,0,none⟩=some (.slice none 0 0):=HS1.out.res.cell (i:=0) (by omega);have f0:=HS1.out.res.frozen 0;have hs:=RowF.lt HS1.out.res;clear hr hl ho hb1;go_wp2;refine bodyPost_ret (v := .tuple #[.agg #[.slice (some ⟨b,0,none⟩) m m],.slice (some ⟨w1.heap.size,0,none⟩) 0 0]) (by simp [results,Tryz.results42,go_sem, *]) rfl ?_;exact ⟨b,m,m,Z,_,0,0,[],rfl,hm8.2,by omega,by omega,hrz.out.1,hrz.out.2,(HR1.out.set_other (by simp; omega) _).alloc _,⟨rfl,.inl rfl⟩,(HS1.out.below.setCell (by simp; omega) _).alloc (by have:=HG.out; simp; omega) _⟩
set_option maxRecDepth 100000 in
set_option maxHeartbeats 3200000 in
theorem drawStanding_any (A:Option Addr) (n c:Nat) (zs:List Int) (w:World) (h:BytesAt w w.heap.size A n zs) (hn:n≤1048576) :
  Calls Tryzx.prog 8 #[.slice A n c] w (StPost w.heap.size w.heap.size w):=by
 have h0:BytesAt (w.alloc (.cells #[.slice none 0 0] 26)) (w.alloc (.cells #[.slice none 0 0] 26)).heap.size A n zs:=h.after ((Below.refl _ _).alloc (Nat.le_refl _) _);have HB0:Hid (Below w.heap.size w (w.alloc (.cells #[.slice none 0 0] 26))):=Lib.hid ((Below.refl _ _).alloc (Nat.le_refl _) _);have HV0:Hid (RowF (w.alloc (.cells #[.slice none 0 0] 26)) w.heap.size 26 1 (fun _ => .slice none 0 0)):=Lib.hid (rowF_new1S _ _ _);go_enter Tryzx.func8,Tryz.ntmps8;go_wp2_with fail
 refine (l01New_any _ _ _ zs _ h0 hn).mono ?_;rintro e w1 ⟨g,rfl,hg,hc,hb1⟩;have hgl:g<w1.heap.size:=by
  obtain ⟨i,x,_,hcc⟩:=hc;exact RowF.lt hcc
 have h1:BytesAt w1 g A n zs:=(h0.below hb1).mono hg;have hgw:w.heap.size<g:=by simp at hg; omega
 have HB1:=Lib.hid (HB0.out.trans (hb1.mono (by simp)));have HV1:=Lib.hid (HV0.out.after hb1);clear hb1 h h0;go_wp2_with fail
 refine (l12Standing_any g _ _ _ zs _ h1 hn hc hgl).mono ?_;rintro e w2 ⟨b,m,d,Z,A',q,cp,L,rfl,hm8,hq,hb,hl,ho,hr,hx,hb2⟩;have HV2:=Lib.hid (RowF.of_block HV1.out (hb2.block w.heap.size hgw));have HB2:=Lib.hid (HB1.out.trans (hb2.mono (by omega)));have HR2:=Lib.hid hr;have HX2:=Lib.hid (hx.mono (base':=w.heap.size+1) (by omega));have hrz:Hid (Z.length=m*4∧archB Z m=true):=Lib.hid ⟨hl,ho⟩;clear hb2 h1 hc hr hx hl ho;have d0:w2.cell? ⟨w.heap.size,0,none⟩=some (.slice none 0 0):=HV2.out.cell (i:=0) (by omega);have f0:=HV2.out.frozen 0;have hs:=RowF.lt HV2.out;go_wp2;refine bodyPost_ret (v := .tuple #[.agg #[.slice (some ⟨b,0,none⟩) m d],.slice A' q cp]) (by simp [results,Tryz.results8,go_sem, *]) rfl ?_;exact ⟨b,m,d,Z,A',q,cp,L,rfl,hm8,hq,by omega,hrz.out.1,hrz.out.2,(HR2.out.set_other (by simp; omega) _).alloc _,(HX2.out.set (by simp) _).after ((Below.refl _ _).alloc (Nat.le_refl _) _),(HB2.out.setCell (by simp) _).alloc (by have:=HB2.out.size; simp; omega) _⟩
end X
namespace X
open Go.RowKit
def cmpN (x y:Int):Int:=if x<y then -1 else if y<x then 1 else 0
def cmpT (H V M D h v m d:Int):Int:=if thrB H V M D=true∧thrB h v m d=true then cmpN (H*d) (h*D) else -2
theorem cmpN_l {x y:Int} (h:x<y):cmpN x y = -1:=by simp [cmpN,h]
theorem cmpN_g {x y:Int} (h:y<x):cmpN x y=1:=by simp [cmpN,h,show ¬ x<y by omega]
theorem cmpN_e {x y:Int} (h:¬ x<y) (h':¬ y<x):cmpN x y=0:=by simp [cmpN,h,h']
theorem cmpT_1 {H V M D:Int} (h v m d:Int) (e:thrB H V M D=false):cmpT H V M D h v m d = -2:=by simp [cmpT,e]
theorem cmpT_2 (H V M D:Int) {h v m d:Int} (e:thrB h v m d=false):cmpT H V M D h v m d = -2:=by simp [cmpT,e]
theorem cmpT_3 {H V M D h v m d:Int} (e:thrB H V M D=true) (e':thrB h v m d=true):cmpT H V M D h v m d=cmpN (H*d) (h*D):=by simp [cmpT,e,e']
theorem thr_mul {H V M D h v m d:Int} (e:thrB H V M D=true) (e':thrB h v m d=true):IntKind.i64.wrap (H*d)=H*d∧IntKind.i64.wrap (h*D)=h*D:=by
 have a:=thrB_out e;have b:=thrB_out e';have m1:=mul_bd (m:=1000000000000) (n:=1000000) (a:=H) (b:=d) (by omega) (by omega);have m2:=mul_bd (m:=1000000000000) (n:=1000000) (a:=h) (b:=D) (by omega) (by omega);exact ⟨IntWalk.i64_in _ (by omega),IntWalk.i64_in _ (by omega)⟩
theorem cmp_any (x y:Int) (w:World):Calls Tryzx.prog 54 #[.int .i64 x,.int .i64 y] w fun e w'=>e = .returned (.int .i64 (cmpN x y))∧w=w':=by
 by_cases h1:x<y
 ·have HN:=Lib.hid (cmpN_l h1)
  go_enter Tryzx.func54,Tryz.ntmps54;go_wp2;go_ret;exact ⟨by rw [HN.out]; rfl,rfl⟩
 ·by_cases h2:y<x
  ·have HN:=Lib.hid (cmpN_g h2)
   have h3:x > y:=h2;go_enter Tryzx.func54,Tryz.ntmps54;go_wp2;go_ret;exact ⟨by rw [HN.out]; rfl,rfl⟩
  ·have HN:=Lib.hid (cmpN_e h1 h2)
   have h3:¬ x > y:=h2;go_enter Tryzx.func54,Tryz.ntmps54;go_wp2;go_ret;exact ⟨by rw [HN.out]; rfl,rfl⟩
section
variable (H V M D h v m d : Int) (w : World)
set_option maxRecDepth 100000 in
set_option maxHeartbeats 1600000 in
theorem iCmpT_any:Calls Tryzx.prog 13 #[.agg #[.int .i64 H,.int .i64 V,.int .i64 M,.int .i64 D],.agg #[.int .i64 h,.int .i64 v,.int .i64 m,.int .i64 d]] w fun e w'=>e = .returned (.int .i64 (cmpT H V M D h v m d))∧Below w.heap.size w w':=by
 have b0:Below w.heap.size w ((w.alloc (.cells #[.int .i64 H,.int .i64 V,.int .i64 M,.int .i64 D] 31)).alloc (.cells #[.int .i64 h,.int .i64 v,.int .i64 m,.int .i64 d] 31)):=((Below.refl _ _).alloc (Nat.le_refl _) _).alloc (by simp) _;have x0:Box4 ((w.alloc (.cells #[.int .i64 H,.int .i64 V,.int .i64 M,.int .i64 D] 31)).alloc (.cells #[.int .i64 h,.int .i64 v,.int .i64 m,.int .i64 d] 31)) w.heap.size H V M D:=(Box4.new w H V M D _).after ((Below.refl _ _).alloc (Nat.le_refl _) _);have y0:Box4 ((w.alloc (.cells #[.int .i64 H,.int .i64 V,.int .i64 M,.int .i64 D] 31)).alloc (.cells #[.int .i64 h,.int .i64 v,.int .i64 m,.int .i64 d] 31)) (w.heap.size+1) h v m d:=by
  have q:=Box4.new (w.alloc (.cells #[.int .i64 H,.int .i64 V,.int .i64 M,.int .i64 D] 31)) h v m d 31;rw [World.size_alloc] at q;exact q
 have HX:=Lib.hid x0;have HY:=Lib.hid y0;obtain ⟨⟨p0,p1,p2,p3⟩,_⟩:=x0;obtain ⟨⟨q0,q1,q2,q3⟩,_⟩:=y0;cases ha:thrB H V M D
 ·have HN:=Lib.hid (cmpT_1 h v m d ha)
  go_enter Tryzx.func13,Tryz.ntmps13;go_wp2_with fail
  refine (iThrustOk_any H V M D _).mono ?_;rw [ha];rintro e w1 ⟨rfl,hb1⟩;have HB1:=Lib.hid (below_then b0 hb1);clear hb1 b0 p0 p1 p2 p3 q0 q1 q2 q3;go_wp2;go_ret;exact ⟨by rw [HN.out]; rfl,HB1.out⟩
 ·go_enter Tryzx.func13,Tryz.ntmps13
  go_wp2_with fail
  refine (iThrustOk_any H V M D _).mono ?_;rw [ha];rintro e w1 ⟨rfl,hb1⟩;have HB1:=Lib.hid (below_then b0 hb1);have HX1:=Lib.hid (HX.out.after hb1);have HY1:=Lib.hid (HY.out.after hb1);clear hb1 b0 p0 p1 p2 p3 q0 q1 q2 q3 HX HY;obtain ⟨⟨q0,q1,q2,q3⟩,_⟩:=HY1.out;go_wp2_with fail
  refine (iThrustOk_any h v m d _).mono ?_;cases hb:thrB h v m d
  ·have HN:=Lib.hid (cmpT_2 H V M D hb)
   rintro e w2 ⟨rfl,hb2⟩;have HB2:=Lib.hid (below_then HB1.out hb2);clear hb2 q0 q1 q2 q3;go_wp2;go_ret;exact ⟨by rw [HN.out]; rfl,HB2.out⟩
  ·have HN:=Lib.hid (cmpT_3 ha hb)
   have hw:=thr_mul ha hb;obtain ⟨e1,e2⟩:=hw;rintro e w2 ⟨rfl,hb2⟩;have HB2:=Lib.hid (below_then HB1.out hb2);have HX2:=Lib.hid (HX1.out.after hb2);have HY2:=Lib.hid (HY1.out.after hb2);clear hb2 q0 q1 q2 q3 ha hb;obtain ⟨⟨p0,p1,p2,p3⟩,_⟩:=HX2.out;obtain ⟨⟨q0,q1,q2,q3⟩,_⟩:=HY2.out;go_wp2_with (go_at_call 54; refine (cmp_any _ _ _).mono ?_; rintro e w' ⟨rfl,rfl⟩);go_ret;exact ⟨by rw [HN.out]; rfl,HB2.out⟩
set_option maxRecDepth 100000 in
set_option maxHeartbeats 1600000 in
theorem cloGreatestThrust_any:Calls Tryzx.prog 46 #[.agg #[.int .i64 H,.int .i64 V,.int .i64 M,.int .i64 D],.agg #[.int .i64 h,.int .i64 v,.int .i64 m,.int .i64 d]] w fun e w'=>e = .returned (.bool (cmpT H V M D h v m d == 1))∧Below w.heap.size w w':=by
 have HB:=Lib.hid (((Below.refl w.heap.size w).alloc (Nat.le_refl _) (.cells #[.int .i64 H,.int .i64 V,.int .i64 M,.int .i64 D] 31)).alloc (by simp) (.cells #[.int .i64 h,.int .i64 v,.int .i64 m,.int .i64 d] 31));have x0:Box4 ((w.alloc (.cells #[.int .i64 H,.int .i64 V,.int .i64 M,.int .i64 D] 31)).alloc (.cells #[.int .i64 h,.int .i64 v,.int .i64 m,.int .i64 d] 31)) w.heap.size H V M D:=(Box4.new w H V M D _).after ((Below.refl _ _).alloc (Nat.le_refl _) _);have y0:Box4 ((w.alloc (.cells #[.int .i64 H,.int .i64 V,.int .i64 M,.int .i64 D] 31)).alloc (.cells #[.int .i64 h,.int .i64 v,.int .i64 m,.int .i64 d] 31)) (w.heap.size+1) h v m d:=by
  have q:=Box4.new (w.alloc (.cells #[.int .i64 H,.int .i64 V,.int .i64 M,.int .i64 D] 31)) h v m d 31;rw [World.size_alloc] at q;exact q
 obtain ⟨⟨p0,p1,p2,p3⟩,_⟩:=x0;obtain ⟨⟨q0,q1,q2,q3⟩,_⟩:=y0;go_enter Tryzx.func46,Tryz.ntmps46;go_wp2_with fail
 refine (iCmpT_any H V M D h v m d _).mono ?_;rintro e w1 ⟨rfl,hb1⟩;have HB1:=Lib.hid (below_then HB.out hb1);clear hb1 p0 p1 p2 p3 q0 q1 q2 q3;go_wp2;go_ret;exact ⟨rfl,HB1.out⟩
set_option maxRecDepth 100000 in
set_option maxHeartbeats 1600000 in
theorem cloLeastThrust_any:Calls Tryzx.prog 45 #[.agg #[.int .i64 H,.int .i64 V,.int .i64 M,.int .i64 D],.agg #[.int .i64 h,.int .i64 v,.int .i64 m,.int .i64 d]] w fun e w'=>e = .returned (.bool (cmpT H V M D h v m d == (-1)))∧Below w.heap.size w w':=by
 have HB:=Lib.hid (((Below.refl w.heap.size w).alloc (Nat.le_refl _) (.cells #[.int .i64 H,.int .i64 V,.int .i64 M,.int .i64 D] 31)).alloc (by simp) (.cells #[.int .i64 h,.int .i64 v,.int .i64 m,.int .i64 d] 31));have x0:Box4 ((w.alloc (.cells #[.int .i64 H,.int .i64 V,.int .i64 M,.int .i64 D] 31)).alloc (.cells #[.int .i64 h,.int .i64 v,.int .i64 m,.int .i64 d] 31)) w.heap.size H V M D:=(Box4.new w H V M D _).after ((Below.refl _ _).alloc (Nat.le_refl _) _);have y0:Box4 ((w.alloc (.cells #[.int .i64 H,.int .i64 V,.int .i64 M,.int .i64 D] 31)).alloc (.cells #[.int .i64 h,.int .i64 v,.int .i64 m,.int .i64 d] 31)) (w.heap.size+1) h v m d:=by
  have q:=Box4.new (w.alloc (.cells #[.int .i64 H,.int .i64 V,.int .i64 M,.int .i64 D] 31)) h v m d 31;rw [World.size_alloc] at q;exact q
 obtain ⟨⟨p0,p1,p2,p3⟩,_⟩:=x0;obtain ⟨⟨q0,q1,q2,q3⟩,_⟩:=y0;go_enter Tryzx.func45,Tryz.ntmps45;go_wp2_with fail
 refine (iCmpT_any H V M D h v m d _).mono ?_;rintro e w1 ⟨rfl,hb1⟩;have HB1:=Lib.hid (below_then HB.out hb1);clear hb1 p0 p1 p2 p3 q0 q1 q2 q3;go_wp2;go_ret;exact ⟨rfl,HB1.out⟩
end
theorem row4 {w:World} {g:Nat} {T:TypeId} {a b c d:Int} (h:RowF w g T 4 (ints [a,b,c,d])):(w.cell? ⟨g,0,none⟩=some (.int .i64 a)∧w.cell? ⟨g,1,none⟩=some (.int .i64 b)∧w.cell? ⟨g,2,none⟩=some (.int .i64 c)∧w.cell? ⟨g,3,none⟩=some (.int .i64 d))∧w.frozen? ⟨g,0,none⟩=false∧w.frozen? ⟨g,1,none⟩=false∧w.frozen? ⟨g,2,none⟩=false∧w.frozen? ⟨g,3,none⟩=false :=
 ⟨⟨h.cell (by omega),h.cell (by omega),h.cell (by omega),h.cell (by omega)⟩,h.frozen 0,h.frozen 1,h.frozen 2,h.frozen 3⟩
def bstK (r:Int) (xs:List Int):Nat→Nat
 | 0=>0
 | k+1=>if cmpT (nth xs ((k+1)*4)) (nth xs ((k+1)*4+1)) (nth xs ((k+1)*4+2)) (nth xs ((k+1)*4+3)) (nth xs (bstK r xs k*4)) (nth xs (bstK r xs k*4+1)) (nth xs (bstK r xs k*4+2)) (nth xs (bstK r xs k*4+3))=r then k+1 else bstK r xs k
def bstV (r:Int) (xs:List Int) (k j:Nat):Int:=nth xs (bstK r xs k*4+j)
def better (r:Int) (xs:List Int) (k:Nat):Int:=cmpT (nth xs ((k+1)*4)) (nth xs ((k+1)*4+1)) (nth xs ((k+1)*4+2)) (nth xs ((k+1)*4+3)) (bstV r xs k 0) (bstV r xs k 1) (bstV r xs k 2) (bstV r xs k 3)
theorem bstV_t {r:Int} {xs:List Int} {k:Nat} (h:better r xs k=r) (j:Nat):bstV r xs (k+1) j=nth xs ((k+1)*4+j):=by
 have e:bstK r xs (k+1)=k+1:=by unfold bstK; exact if_pos h
 unfold bstV; rw [e]
theorem bstV_f {r:Int} {xs:List Int} {k:Nat} (h:¬ better r xs k=r) (j:Nat):bstV r xs (k+1) j=bstV r xs k j:=by
 have e:bstK r xs (k+1)=bstK r xs k:=by rw [bstK]; exact if_neg h
 unfold bstV; rw [e]
theorem bstV_0 (r:Int) (xs:List Int) (j:Nat):bstV r xs 0 j=nth xs j:=by unfold bstV bstK; rw [Nat.zero_mul,Nat.zero_add]
def bst4 (r:Int) (xs:List Int) (k:Nat):List Int := [bstV r xs k 0,bstV r xs k 1,bstV r xs k 2,bstV r xs k 3]
set_option maxRecDepth 100000 in
set_option maxHeartbeats 3200000 in
theorem bestThr_any (FF:Nat) (r:Int) (hF:∀ (args:Array Value) (w:World),Sem.run Tryzx.prog (callFunc FF args) w = .ok (.enter FF args) w) (hcl:∀ (H V M D h v m d:Int) (w:World),Calls Tryzx.prog FF #[.agg #[.int .i64 H,.int .i64 V,.int .i64 M,.int .i64 D],.agg #[.int .i64 h,.int .i64 v,.int .i64 m,.int .i64 d]] w fun e w'=>e = .returned (.bool (cmpT H V M D h v m d == r))∧Below w.heap.size w w') (A:Option Addr) (n c:Nat) (xs:List Int) (w:World) (h:RecsAt w w.heap.size 4 A n xs) (hn:1≤n) (hn2:n≤1048576) (hc:n≤c) (hcm:c≤9223372036854775807) :
  Calls Tryzx.prog 44 #[.slice A n c,.func (.func FF) #[] #[]] w fun e w'=>e = .returned (.agg #[.int .i64 (bstV r xs (n - 1) 0),.int .i64 (bstV r xs (n - 1) 1),.int .i64 (bstV r xs (n - 1) 2),.int .i64 (bstV r xs (n - 1) 3)])∧Below w.heap.size w w':=by
 obtain ⟨j,rfl⟩:∃ j,n=j+1:=⟨n - 1,by omega⟩;obtain ⟨b,off,rfl,hbB,hcell⟩:=h.2 (by omega);have x0:w.cell? ⟨b,off,none⟩=some (.int .i64 (nth xs 0)):=hcell 0 (by omega);have x1:w.cell? ⟨b,off+1,none⟩=some (.int .i64 (nth xs 1)):=hcell 1 (by omega);have x2:w.cell? ⟨b,off+2,none⟩=some (.int .i64 (nth xs 2)):=hcell 2 (by omega);have x3:w.cell? ⟨b,off+3,none⟩=some (.int .i64 (nth xs 3)):=hcell 3 (by omega);have HC:=Lib.hid hcell;have HB0:=Lib.hid (((Below.refl w.heap.size w).alloc (Nat.le_refl _) (.cells #[.int .i64 0,.int .i64 0,.int .i64 0,.int .i64 0] 31)).alloc (by simp) (.cells #[.int .i64 (nth xs 0),.int .i64 (nth xs 1),.int .i64 (nth xs 2),.int .i64 (nth xs 3)] 31));have HR0:=Lib.hid ((RowF.of_row (World.rowIs_alloc w #[.int .i64 0,.int .i64 0,.int .i64 0,.int .i64 0] 31 (ints [0,0,0,0]) (fun i hi=>by simp at hi; match i,hi with | 0,_=>rfl | 1,_=>rfl | 2,_=>rfl | 3,_=>rfl))).alloc (.cells #[.int .i64 (nth xs 0),.int .i64 (nth xs 1),.int .i64 (nth xs 2),.int .i64 (nth xs 3)] 31))
 have HR1:Hid (RowF ((w.alloc (.cells #[.int .i64 0,.int .i64 0,.int .i64 0,.int .i64 0] 31)).alloc (.cells #[.int .i64 (nth xs 0),.int .i64 (nth xs 1),.int .i64 (nth xs 2),.int .i64 (nth xs 3)] 31)) (w.heap.size+1) 31 4 (ints (bst4 r xs 0))):=by
  have h:=RowF.of_row (World.rowIs_alloc (w.alloc (.cells #[.int .i64 0,.int .i64 0,.int .i64 0,.int .i64 0] 31)) #[.int .i64 (nth xs 0),.int .i64 (nth xs 1),.int .i64 (nth xs 2),.int .i64 (nth xs 3)] 31 (ints [(nth xs 0),(nth xs 1),(nth xs 2),(nth xs 3)]) (fun i hi=>by simp at hi; match i,hi with | 0,_=>rfl | 1,_=>rfl | 2,_=>rfl | 3,_=>rfl))
  rw [World.size_alloc] at h;unfold bst4;rw [bstV_0,bstV_0,bstV_0,bstV_0];exact h
 have hbl:b<w.heap.size+1:=by omega
 have e1:((j+1:Nat):Int) - 1=(j:Int):=by omega
 clear h hcell;by_cases hc1:c=1
 ·obtain rfl:j=0:=by omega
  subst hc1;go_enter Tryzx.func44,Tryz.ntmps44;go_wp2;go_loopw [14] (fun i wr=>∃ k:Nat,k≤0∧i = .int .i64 k∧Hid (RowF wr w.heap.size 31 4 (ints [0,0,0,0]))∧Hid (RowF wr (w.heap.size+1) 31 4 (ints (bst4 r xs k)))∧Hid (Below w.heap.size w wr)) (fun i _=>0 - (intOf i).toNat)
  case atStart=>exact ⟨0,Nat.zero_le _,rfl,HR0,HR1,HB0⟩
  case round =>
   clear HB0 HR0 HR1 x0 x1 x2 x3;obtain ⟨k,hk,rfl,HA,HQ,HBL⟩:=hrel;by_cases hlt:k<0
   ·omega
   ·obtain rfl:k=0:=by omega
    obtain ⟨⟨c0,c1,c2,c3⟩,_⟩:=row4 (a:=bstV r xs 0 0) (b:=bstV r xs 0 1) (c:=bstV r xs 0 2) (d:=bstV r xs 0 3) HQ.out;obtain ⟨⟨d0,d1,d2,d3⟩,f0,f1,f2,f3⟩:=row4 HA.out;go_wp2;refine bodyPost_ret (v := .agg #[.int .i64 (bstV r xs 0 0),.int .i64 (bstV r xs 0 1),.int .i64 (bstV r xs 0 2),.int .i64 (bstV r xs 0 3)]) (by simp [results,Tryz.results44,go_sem, *]) rfl ⟨by first | rfl | rw [Nat.add_sub_cancel],?_⟩;exact (((HBL.out.setCell (p:=⟨w.heap.size,0,none⟩) (Nat.le_refl _) _).setCell (p:=⟨w.heap.size,1,none⟩) (Nat.le_refl _) _).setCell (p:=⟨w.heap.size,2,none⟩) (Nat.le_refl _) _).setCell (p:=⟨w.heap.size,3,none⟩) (Nat.le_refl _) _
 ·have hc2:1<c:=by omega
  have hc3:(1:Int)<(c:Int):=by omega
  clear hc1;go_enter Tryzx.func44,Tryz.ntmps44;go_wp2;go_loopw [14] (fun i wr=>∃ k:Nat,k≤j∧i = .int .i64 k∧Hid (RowF wr w.heap.size 31 4 (ints [0,0,0,0]))∧Hid (RowF wr (w.heap.size+1) 31 4 (ints (bst4 r xs k)))∧Hid (Below w.heap.size w wr)) (fun i _=>j - (intOf i).toNat)
  case atStart=>exact ⟨0,Nat.zero_le _,rfl,HR0,HR1,HB0⟩
  case round =>
   clear HB0 HR0 HR1 x0 x1 x2 x3;obtain ⟨k,hk,rfl,HA,HQ,HBL⟩:=hrel;by_cases hlt:k<j
   ·have y0:wr.cell? ⟨b,off+4+k*4,none⟩=some (.int .i64 (nth xs ((k+1)*4))):=by
     have:=(HBL.out.cell (p:=⟨b,off+(k+1)*4,none⟩) hbB).trans (HC.out ((k+1)*4) (by omega));rwa [show off+(k+1)*4=off+4+k*4 by omega] at this
    have y1:wr.cell? ⟨b,off+4+k*4+1,none⟩=some (.int .i64 (nth xs ((k+1)*4+1))):=by
     have:=(HBL.out.cell (p:=⟨b,off+((k+1)*4+1),none⟩) hbB).trans (HC.out ((k+1)*4+1) (by omega));rwa [show off+((k+1)*4+1)=off+4+k*4+1 by omega] at this
    have y2:wr.cell? ⟨b,off+4+k*4+2,none⟩=some (.int .i64 (nth xs ((k+1)*4+2))):=by
     have:=(HBL.out.cell (p:=⟨b,off+((k+1)*4+2),none⟩) hbB).trans (HC.out ((k+1)*4+2) (by omega));rwa [show off+((k+1)*4+2)=off+4+k*4+2 by omega] at this
    have y3:wr.cell? ⟨b,off+4+k*4+3,none⟩=some (.int .i64 (nth xs ((k+1)*4+3))):=by
     have:=(HBL.out.cell (p:=⟨b,off+((k+1)*4+3),none⟩) hbB).trans (HC.out ((k+1)*4+3) (by omega));rwa [show off+((k+1)*4+3)=off+4+k*4+3 by omega] at this
    have hz:=HBL.out.size;have hgl:=HQ.out.lt;obtain ⟨⟨c0,c1,c2,c3⟩,_⟩:=row4 (a:=bstV r xs k 0) (b:=bstV r xs k 1) (c:=bstV r xs k 2) (d:=bstV r xs k 3) HQ.out;have TT:Hid (better r xs k=r→bst4 r xs (k+1) = [nth xs ((k+1)*4),nth xs ((k+1)*4+1),nth xs ((k+1)*4+2),nth xs ((k+1)*4+3)]):=Lib.hid (fun h=>by unfold bst4; rw [bstV_t h,bstV_t h,bstV_t h,bstV_t h]; rfl)
    have TF:Hid (¬ better r xs k=r→bst4 r xs (k+1)=bst4 r xs k):=Lib.hid (fun h=>by unfold bst4; rw [bstV_f h,bstV_f h,bstV_f h,bstV_f h]);have HQ4:Hid (bst4 r xs k = [bstV r xs k 0,bstV r xs k 1,bstV r xs k 2,bstV r xs k 3]):=rfl;unfold better at TT TF;have HBA:=Lib.hid (HBL.out.alloc hz (.cells #[.int .i64 (nth xs ((k+1)*4)),.int .i64 (nth xs ((k+1)*4+1)),.int .i64 (nth xs ((k+1)*4+2)),.int .i64 (nth xs ((k+1)*4+3))] 31));have HAA:=Lib.hid (HA.out.alloc (.cells #[.int .i64 (nth xs ((k+1)*4)),.int .i64 (nth xs ((k+1)*4+1)),.int .i64 (nth xs ((k+1)*4+2)),.int .i64 (nth xs ((k+1)*4+3))] 31));have HBX:=Lib.hid (HQ.out.alloc (.cells #[.int .i64 (nth xs ((k+1)*4)),.int .i64 (nth xs ((k+1)*4+1)),.int .i64 (nth xs ((k+1)*4+2)),.int .i64 (nth xs ((k+1)*4+3))] 31));have HNX:=Lib.hid (RowF.of_row (World.rowIs_alloc wr #[.int .i64 (nth xs ((k+1)*4)),.int .i64 (nth xs ((k+1)*4+1)),.int .i64 (nth xs ((k+1)*4+2)),.int .i64 (nth xs ((k+1)*4+3))] 31 (ints [(nth xs ((k+1)*4)),(nth xs ((k+1)*4+1)),(nth xs ((k+1)*4+2)),(nth xs ((k+1)*4+3))]) (fun i hi=>by simp at hi; match i,hi with | 0,_=>rfl | 1,_=>rfl | 2,_=>rfl | 3,_=>rfl)))
    clear HA HQ HBL;generalize nth xs ((k+1)*4)=p0 at *
    generalize nth xs ((k+1)*4+1)=p1 at *
    generalize nth xs ((k+1)*4+2)=p2 at *
    generalize nth xs ((k+1)*4+3)=p3 at *
    generalize bstV r xs k 0=q0 at *
    generalize bstV r xs k 1=q1 at *
    generalize bstV r xs k 2=q2 at *
    generalize bstV r xs k 3=q3 at *
    go_wp2_with fail
    refine (hcl p0 p1 p2 p3 q0 q1 q2 q3 _).mono ?_;rintro e w2 ⟨rfl,hb2⟩;have HB2:=Lib.hid (HBA.out.trans (hb2.mono (by simp; omega)))
    have HA2:=Lib.hid (HAA.out.after hb2);have HX2:=Lib.hid (HBX.out.after hb2);have rN:=HNX.out.after hb2;clear hb2 HBA HAA HBX HNX;by_cases hbt:cmpT p0 p1 p2 p3 q0 q1 q2 q3=r
    ·have HF:=Lib.hid (TT.out hbt)
     have hbe:(cmpT p0 p1 p2 p3 q0 q1 q2 q3 == r)=true:=by rw [hbt]; simp
     rw [hbe];rw [HQ4.out] at HX2;clear hbt hbe;obtain ⟨⟨n0,n1,n2,n3⟩,_⟩:=row4 rN;obtain ⟨⟨b0,b1,b2,b3⟩,g0,g1,g2,g3⟩:=row4 HX2.out;have HX3:=Lib.hid (((((HX2.out.set 0 (.int .i64 p0)).set 1 (.int .i64 p1)).set 2 (.int .i64 p2)).set 3 (.int .i64 p3)).congr (f':=ints [p0,p1,p2,p3]) (fun i hi=>by match i,hi with | 0,_=>rfl | 1,_=>rfl | 2,_=>rfl | 3,_=>rfl));have HA3:=Lib.hid ((((HA2.out.set_other (p:=⟨w.heap.size+1,0,none⟩) (by simp) (.int .i64 p0)).set_other (p:=⟨w.heap.size+1,1,none⟩) (by simp) (.int .i64 p1)).set_other (p:=⟨w.heap.size+1,2,none⟩) (by simp) (.int .i64 p2)).set_other (p:=⟨w.heap.size+1,3,none⟩) (by simp) (.int .i64 p3));have HB3:=Lib.hid ((((HB2.out.setCell (p:=⟨w.heap.size+1,0,none⟩) (by simp) (.int .i64 p0)).setCell (p:=⟨w.heap.size+1,1,none⟩) (by simp) (.int .i64 p1)).setCell (p:=⟨w.heap.size+1,2,none⟩) (by simp) (.int .i64 p2)).setCell (p:=⟨w.heap.size+1,3,none⟩) (by simp) (.int .i64 p3));clear rN;go_wp2;go_roundw
     case rel=>exact ⟨k+1,by omega,by go_num,HA3,by rw [HF.out]; exact HX3,HB3⟩
     case measure=>simp [intOf]; omega
    ·have HF:=Lib.hid (TF.out hbt)
     have hbe:(cmpT p0 p1 p2 p3 q0 q1 q2 q3 == r)=false:=by simp [hbt]
     rw [hbe];clear hbt hbe;go_wp2;go_roundw
     case rel=>exact ⟨k+1,by omega,by go_num,HA2,by rw [HF.out]; exact HX2,HB2⟩
     case measure=>simp [intOf]; omega
   ·obtain rfl:k=j:=by omega
    obtain ⟨⟨c0,c1,c2,c3⟩,_⟩:=row4 (a:=bstV r xs k 0) (b:=bstV r xs k 1) (c:=bstV r xs k 2) (d:=bstV r xs k 3) HQ.out;obtain ⟨⟨d0,d1,d2,d3⟩,f0,f1,f2,f3⟩:=row4 HA.out;go_wp2;refine bodyPost_ret (v := .agg #[.int .i64 (bstV r xs k 0),.int .i64 (bstV r xs k 1),.int .i64 (bstV r xs k 2),.int .i64 (bstV r xs k 3)]) (by simp [results,Tryz.results44,go_sem, *]) rfl ⟨by first | rfl | rw [Nat.add_sub_cancel],?_⟩;exact (((HBL.out.setCell (p:=⟨w.heap.size,0,none⟩) (Nat.le_refl _) _).setCell (p:=⟨w.heap.size,1,none⟩) (Nat.le_refl _) _).setCell (p:=⟨w.heap.size,2,none⟩) (Nat.le_refl _) _).setCell (p:=⟨w.heap.size,3,none⟩) (Nat.le_refl _) _
theorem bestGreatestThrust_any (A:Option Addr) (n c:Nat) (xs:List Int) (w:World) (h:RecsAt w w.heap.size 4 A n xs) (hn:1≤n) (hn2:n≤1048576) (hc:n≤c) (hcm:c≤9223372036854775807) :
  Calls Tryzx.prog 44 #[.slice A n c,.func (.func 46) #[] #[]] w fun e w'=>e = .returned (.agg #[.int .i64 (bstV 1 xs (n - 1) 0),.int .i64 (bstV 1 xs (n - 1) 1),.int .i64 (bstV 1 xs (n - 1) 2),.int .i64 (bstV 1 xs (n - 1) 3)])∧Below w.heap.size w w' :=
 bestThr_any 46 1 (fun args w=>by simp) cloGreatestThrust_any A n c xs w h hn hn2 hc hcm
theorem bestLeastThrust_any (A:Option Addr) (n c:Nat) (xs:List Int) (w:World) (h:RecsAt w w.heap.size 4 A n xs) (hn:1≤n) (hn2:n≤1048576) (hc:n≤c) (hcm:c≤9223372036854775807) :
  Calls Tryzx.prog 44 #[.slice A n c,.func (.func 45) #[] #[]] w fun e w'=>e = .returned (.agg #[.int .i64 (bstV (-1) xs (n - 1) 0),.int .i64 (bstV (-1) xs (n - 1) 1),.int .i64 (bstV (-1) xs (n - 1) 2),.int .i64 (bstV (-1) xs (n - 1) 3)])∧Below w.heap.size w w' :=
 bestThr_any 45 (-1) (fun args w=>by simp) cloLeastThrust_any A n c xs w h hn hn2 hc hcm
end X
namespace X
open Go.RowKit
def hcells:List (Int × Bool)→List Value
 | [] => []
 | x :: r => .int .i64 x.1 :: .bool x.2 :: hcells r
theorem hcells_len:∀ L:List (Int × Bool),(hcells L).length=L.length*2
 | []=>rfl
 | x :: r=>by simp [hcells,hcells_len r]; omega
def hjs (L:List (Int × Bool)):List Int:=L.map (·.1)
theorem hcells_at:∀ (L:List (Int × Bool)) (i:Nat),i<L.length→(hcells L)[i*2]?=some (.int .i64 (nth (hjs L) i))∧∃ o,(hcells L)[i*2+1]?=some (.bool o)
 | [],i,h=>by simp at h
 | x :: r,0,_=>⟨by simp [hcells,hjs,nth],x.2,by simp [hcells]⟩
 | x :: r,i+1,h=>by
  have h2:=hcells_at r i (by simpa using h);obtain ⟨h3,o,h4⟩:=h2;refine ⟨?_,o,?_⟩
  ·rw [show (i+1)*2=i*2+1+1 by omega]
   simp only [hcells,List.getElem?_cons_succ,h3];simp [hjs,nth]
  ·rw [show (i+1)*2+1=(i*2+1)+1+1 by omega]
   simp only [hcells,List.getElem?_cons_succ,h4]
def HngAt (w:World) (A:Option Addr) (m:Nat) (js:List Int):Prop :=
 1≤m→∃ b off,A=some ⟨b,off,none⟩∧b<w.heap.size∧∀ i,i<m→w.cell? ⟨b,off+i*2,none⟩=some (.int .i64 (nth js i))∧∃ o,w.cell? ⟨b,off+i*2+1,none⟩=some (.bool o)
theorem HngAt.below {w w':World} {A:Option Addr} {m:Nat} {js:List Int} (h:HngAt w A m js) (hb:Below w.heap.size w w'):HngAt w' A m js:=by
 intro hm;obtain ⟨b,off,rfl,hlt,hc⟩:=h hm;have hs:=hb.size;refine ⟨b,off,rfl,by omega,fun i hi => ?_⟩;obtain ⟨h1,o,h2⟩:=hc i hi;exact ⟨(hb.cell hlt).trans h1,o,(hb.cell hlt).trans h2⟩
def OwnH (w:World) (base:Nat) (E:TypeId) (v:Value) (L:List (Int × Bool)):Prop:=w.ownsRow base E 2 v L.length (hcells L)
section
variable {w w' : World} {base : Nat} {E : TypeId} {v : Value} {L : List (Int × Bool)}
theorem OwnH.nil (w:World) (base:Nat) (E:TypeId):OwnH w base E (.slice none 0 0) []:=World.ownsRow_nil _ _ _ _
theorem OwnH.new (w:World) (E:TypeId):OwnH (w.alloc (.cells #[] E)) w.heap.size E (.slice (some ⟨w.heap.size,0,none⟩) 0 0) [] :=
 World.ownsRow_lit (base:=w.heap.size) (e:=E) (size:=2) w #[] 0 (Nat.le_refl _) (by simp [maxLen]) (by simp)
theorem OwnH.alloc (h:OwnH w base E v L) (o:Obj):OwnH (w.alloc o) base E v L:=World.ownsRow.alloc h o
theorem OwnH.below (h:OwnH w base E v L) (hb:Below w.heap.size w w'):OwnH w' base E v L:=by
 refine ⟨h.1,?_⟩;rcases h.2 with h2 | ⟨g,cap,cur,h1,h2,h3,hr⟩
 ·exact .inl h2
 ·refine .inr ⟨g,cap,cur,h1,h2,(hb.block g ?_).trans h3,hr⟩
  exact (Array.getElem?_eq_some_iff.1 h3).1
theorem OwnH.form (h:OwnH w base E v L):(v = .slice none 0 0∧L = []) ∨ ∃ g cap,v = .slice (some ⟨g,0,none⟩) L.length cap∧base≤g∧L.length≤cap∧g<w.heap.size∧∀ i u,(hcells L)[i]?=some u→w.cell? ⟨g,i,none⟩=some u:=by
 rcases h.2 with ⟨h1,h2⟩ | ⟨g,cap,cur,h1,h2,h3,h4,h5,h6,h7⟩
 ·exact .inl ⟨h1,List.eq_nil_of_length_eq_zero h2⟩
 ·refine .inr ⟨g,cap,h1,h2,h4,(Array.getElem?_eq_some_iff.1 h3).1,fun i u hu => ?_⟩
  have hl:=hcells_len L;have hi:i<L.length*2:=by
   have:=(List.getElem?_eq_some_iff.1 hu).1;omega
  have e:(cur.toList.take (L.length*2))[i]?=(hcells L)[i]?:=by rw [h7]
  rw [List.getElem?_take,if_pos hi,hu] at e;have e2:cur[i]?=some u:=by simpa using e
  simp [World.cell?,h3,e2]
theorem OwnH.slice (h:OwnH w base E v L):∃ A c,v = .slice A L.length c∧HngAt w A L.length (hjs L):=by
 rcases h.form with ⟨rfl,rfl⟩ | ⟨g,cap,rfl,_,hc,hlt,hx⟩
 ·exact ⟨_,_,rfl,fun h=>by simp at h⟩
 ·refine ⟨_,_,rfl,fun _=>⟨g,0,rfl,hlt,fun i hi => ?_⟩⟩
  obtain ⟨h1,o,h2⟩:=hcells_at L i hi;rw [Nat.zero_add];exact ⟨hx _ _ h1,o,hx _ _ h2⟩
end
end X
namespace X
open Go.RowKit
structure LeftStart (w wr:World) (v:Value) (a b:Int):Prop where
 box:Box wr w.heap.size v
 res:RowF wr (w.heap.size+1) 143 2 (ints [0,0])
 sum:RowF wr (w.heap.size+2) 143 2 (ints [a,b])
 below:Below w.heap.size w wr
theorem LeftStart.after {w wr w2:World} {v:Value} {a b:Int} (h:LeftStart w wr v a b) (hb:Below wr.heap.size wr w2):LeftStart w w2 v a b:=⟨h.box.after hb,h.res.after hb,h.sum.after hb,h.below.trans (hb.mono h.below.size)⟩
end X
namespace X
open Go.RowKit
structure MCap (w:World) (gt gl gu:Nat) (H V M D W Mo:Int):Prop where
 thr:Box4 w gt H V M D
 left:w.cell? ⟨gl,0,none⟩=some (.int .i64 W)∧w.cell? ⟨gl,1,none⟩=some (.int .i64 Mo)∧gl<w.heap.size
 up:w.cell? ⟨gu,0,none⟩=some (.int .i64 (V - D*W))∧gu<w.heap.size
theorem MCap.after {w w1:World} {gt gl gu:Nat} {H V M D W Mo:Int} (h:MCap w gt gl gu H V M D W Mo) (hb:Below w.heap.size w w1):MCap w1 gt gl gu H V M D W Mo :=
 ⟨h.thr.after hb,⟨(hb.cell (p:=⟨gl,0,none⟩) h.left.2.2).trans h.left.1,(hb.cell (p:=⟨gl,1,none⟩) h.left.2.2).trans h.left.2.1,Nat.lt_of_lt_of_le h.left.2.2 hb.size⟩,⟨(hb.cell (p:=⟨gu,0,none⟩) h.up.2).trans h.up.1,Nat.lt_of_lt_of_le h.up.2 hb.size⟩⟩
end X
namespace X
open Go.RowKit
def stB (zs:List Int) (n:Nat) (ls:List Int) (q:Nat) (H V M D:Int):Bool:=fulAll (rowsZ zs n ls q) (rowsN zs n ls q) H V M D
theorem rowsN_le (zs:List Int) (n:Nat) (ls:List Int) (q:Nat):rowsN zs n ls q≤17:=by
 unfold rowsN;split
 ·rename_i h
  have:=(archB_out (loadsB_out h).1).1;omega
 ·omega
set_option maxRecDepth 100000 in
set_option maxHeartbeats 1600000 in
theorem iStandsWith_any (A : Option Addr) (n c : Nat) (zs : List Int) (B : Option Addr) (q d : Nat) (ls : List Int) (H V M D : Int) (w : World) (h : RecsAt w w.heap.size 4 A n zs) (hn : n ≤ 1048576) (hl : RecsAt w w.heap.size 3 B q ls) (hq : q ≤ 1048576) :
    Calls Tryzx.prog 15 #[.agg #[.slice A n c], .slice B q d, .agg #[.int .i64 H, .int .i64 V, .int .i64 M, .int .i64 D]] w fun e w' => e = .returned (.bool (stB zs n ls q H V M D)) ∧ Below w.heap.size w w' := by
  have at0 := AT.start w (.slice A n c) H V M D 26 31;have b0 := at_below w (.slice A n c) H V M D 26 31;have h1 := h.after b0;have l1 := hl.after b0;have a0 := at0.arch.1;obtain ⟨t0, t1, t2, t3⟩ := at0.thr.1;have hr17 := rowsN_le zs n ls q;have HST : Hid (stB zs n ls q H V M D = fulAll (rowsZ zs n ls q) (rowsN zs n ls q) H V M D) := rfl;generalize stB zs n ls q H V M D = sb at *
  clear b0 h hl;go_enter Tryzx.func15, Tryz.ntmps15;go_wp2;go_region_held3 (fun w' => w'.cell? ⟨w.heap.size, 0, none⟩ = some (.slice A n c) ∧ (w'.cell? ⟨w.heap.size + 1, 0, none⟩ = some (.int .i64 H) ∧ w'.cell? ⟨w.heap.size + 1, 1, none⟩ = some (.int .i64 V) ∧ w'.cell? ⟨w.heap.size + 1, 2, none⟩ = some (.int .i64 M) ∧ w'.cell? ⟨w.heap.size + 1, 3, none⟩ = some (.int .i64 D))) (first | exact ⟨a0, t0, t1, t2, t3⟩ | exact ⟨at2.arch.1, at2.thr.1⟩ | exact ⟨at3.arch.1, at3.thr.1⟩)
    ((first
      | (go_at_call 48; refine (iRowsOf_any _ _ _ zs _ _ _ ls _ (by exact h1) hn (by exact l1) hq).mono ?_; rintro e w2 ⟨v2, rfl, ho2, hbx2⟩; have hb2 := below_undrew hbx2; have at2 := at0.after hb2; obtain ⟨A2, c2, rfl, _⟩ := ho2.slice; have r2 := ho2.recs)
      | (go_at_call 56; refine (iFulfillsAll_any _ _ _ _ _ _ _ _ _ (by exact r2) (by omega)).mono ?_; rintro e w3 ⟨rfl, hb3⟩; have at3 := at2.after hb3)))
  have HB3 := Lib.hid at3.below;clear at0 at2 at3 hb2 hb3 hbx2 ho2 r2 a0 t0 t1 t2 t3 h1 l1;go_wp2;go_ret;exact ⟨ret_bool (by rw [HST.out]), HB3.out⟩
end X
namespace X
open Go.RowKit
theorem gcd4_dvd (a b c d:Int):((gcd4 a b c d:Nat):Int) ∣ a∧((gcd4 a b c d:Nat):Int) ∣ b∧((gcd4 a b c d:Nat):Int) ∣ c∧((gcd4 a b c d:Nat):Int) ∣ d:=by
 have h1:gcd4 a b c d ∣ Nat.gcd a.natAbs b.natAbs:=Nat.gcd_dvd_left _ _;have h2:gcd4 a b c d ∣ Nat.gcd c.natAbs d.natAbs:=Nat.gcd_dvd_right _ _;exact ⟨Int.ofNat_dvd_left.2 (Nat.dvd_trans h1 (Nat.gcd_dvd_left _ _)),Int.ofNat_dvd_left.2 (Nat.dvd_trans h1 (Nat.gcd_dvd_right _ _)),Int.ofNat_dvd_left.2 (Nat.dvd_trans h2 (Nat.gcd_dvd_left _ _)),Int.ofNat_dvd_left.2 (Nat.dvd_trans h2 (Nat.gcd_dvd_right _ _))⟩
theorem mkG_mul (h v m d:Int):mkG h v m d*Int.tdiv h (mkG h v m d)=h∧mkG h v m d*Int.tdiv v (mkG h v m d)=v∧mkG h v m d*Int.tdiv m (mkG h v m d)=m∧mkG h v m d*Int.tdiv d (mkG h v m d)=d:=by
 have hd:=gcd4_dvd h v m d;have hg:mkG h v m d ∣ h∧mkG h v m d ∣ v∧mkG h v m d ∣ m∧mkG h v m d ∣ d:=by
  unfold mkG;split
  ·exact ⟨Int.neg_dvd.2 hd.1,Int.neg_dvd.2 hd.2.1,Int.neg_dvd.2 hd.2.2.1,Int.neg_dvd.2 hd.2.2.2⟩
  ·exact hd
 exact ⟨Int.mul_tdiv_cancel' hg.1,Int.mul_tdiv_cancel' hg.2.1,Int.mul_tdiv_cancel' hg.2.2.1,Int.mul_tdiv_cancel' hg.2.2.2⟩
theorem frac_tr {Hn Dn Hb Db Hj Dj:Int} (hn:0<Dn) (hb:0<Db) (hj:0<Dj) (h1:Hn*Db≤Hb*Dn) (h2:Hb*Dj≤Hj*Db):Hn*Dj≤Hj*Dn:=by
 have e1:Hn*Db*Dj≤Hb*Dn*Dj:=Int.mul_le_mul_of_nonneg_right h1 (by omega);have e2:Hb*Dj*Dn≤Hj*Db*Dn:=Int.mul_le_mul_of_nonneg_right h2 (by omega);have e3:Hn*Dj*Db≤Hj*Dn*Db:=by
  have a1:Hn*Db*Dj=Hn*Dj*Db:=by grind
  have a2:Hb*Dn*Dj=Hb*Dj*Dn:=by grind
  have a3:Hj*Db*Dn=Hj*Dn*Db:=by grind
  omega
 exact Int.le_of_mul_le_mul_right e3 hb
theorem bstK_up (r:Int) (xs:List Int):∀ k,bstK r xs k≤k
 | 0=>Nat.le_refl _
 | k+1=>by
  have:=bstK_up r xs k;unfold bstK;split <;> omega
theorem bst_min {xs:List Int} {m:Nat} (h:∀ j,j<m→thrB (nth xs (j*4)) (nth xs (j*4+1)) (nth xs (j*4+2)) (nth xs (j*4+3))=true):∀ k,k<m→∀ j,j≤k→bstV (-1) xs k 0*nth xs (j*4+3)≤nth xs (j*4)*bstV (-1) xs k 3
 | 0,hk,j,hj=>by
  obtain rfl:j=0:=by omega
  rw [bstV_0,bstV_0];simp
 | k+1,hk,j,hj=>by
  have hb:thrB (bstV (-1) xs k 0) (bstV (-1) xs k 1) (bstV (-1) xs k 2) (bstV (-1) xs k 3)=true:=by
   have:=bstK_up (-1) xs k;exact h _ (by omega)
  have hn:=h (k+1) hk;have db:=(thrB_out hb).1.1;have dn:=(thrB_out hn).1.1;have ec:better (-1) xs k=cmpN (nth xs ((k+1)*4)*bstV (-1) xs k 3) (bstV (-1) xs k 0*nth xs ((k+1)*4+3)):=cmpT_3 hn hb;have ih:=bst_min h k (by omega);by_cases e:better (-1) xs k = -1
  ·rw [bstV_t e,bstV_t e,Nat.add_zero]
   have hlt:nth xs ((k+1)*4)*bstV (-1) xs k 3<bstV (-1) xs k 0*nth xs ((k+1)*4+3):=by
    rw [ec] at e;unfold cmpN at e;split at e
    ·assumption
    ·split at e <;> omega
   by_cases ej:j=k+1
   ·subst ej; exact Int.le_refl _
   ·exact frac_tr (by omega) (by omega) (by have:=(thrB_out (h j (by omega))).1.1; omega) (Int.le_of_lt hlt) (ih j (by omega))
  ·rw [bstV_f e,bstV_f e]
   by_cases ej:j=k+1
   ·subst ej
    rw [ec] at e;have:¬ nth xs ((k+1)*4)*bstV (-1) xs k 3<bstV (-1) xs k 0*nth xs ((k+1)*4+3):=fun hl=>e (cmpN_l hl)
    omega
   ·exact ih j (by omega)
end X
namespace X
open Go.RowKit
def MetAll (rs:List Int) (n:Nat) (acc:List Int):Prop:=∃ q,acc.length=q*4∧∀ j,j<q→(thrB (nth acc (j*4)) (nth acc (j*4+1)) (nth acc (j*4+2)) (nth acc (j*4+3))=true∧allB (metAt rs (nth acc (j*4)) (nth acc (j*4+1)) (nth acc (j*4+2)) (nth acc (j*4+3))) n=true)
theorem nthL {xs ys:List Int} {j:Nat} (h:j<xs.length):nth (xs ++ ys) j=nth xs j:=by
 rw [nth_get _ _ (by rw [List.length_append]; omega),nth_get _ _ h,List.getElem_append_left h]
theorem nthR {xs ys:List Int} {j:Nat} (h:j<ys.length):nth (xs ++ ys) (xs.length+j)=nth ys j:=by
 rw [nth_get _ _ (by rw [List.length_append]; omega),nth_get _ _ h,List.getElem_append_right (by omega)]
 congr 1
 omega
theorem crStep_met {rs:List Int} {n i k m:Nat} {acc:List Int} (h:MetAll rs n acc):MetAll rs n (crStep rs n i k m acc):=by
 unfold crStep;split
 ·rename_i hc
  simp only [Bool.and_eq_true] at hc;have ht:=cr_thr rs hc.1;have hm:=hc.2.2;unfold crAll at hm;obtain ⟨q,hl,ha⟩:=h;refine ⟨q+1,by rw [List.length_append,hl]; simp; omega,fun j hj => ?_⟩
  by_cases e:j<q
  ·rw [nthL (by omega),nthL (by omega),nthL (by omega),nthL (by omega)]
   exact ha j e
  ·obtain rfl:j=q:=by omega
   have e0:j*4=acc.length+0:=by omega
   rw [e0,Nat.add_assoc,Nat.add_assoc,Nat.add_assoc,nthR (by simp),nthR (by simp),nthR (by simp),nthR (by simp)];exact ⟨ht,hm⟩
 ·exact h
theorem foldN_met {rs:List Int} {n:Nat} {f:Nat→List Int→List Int} (hf:∀ j a,MetAll rs n a→MetAll rs n (f j a)) {a:List Int} (h:MetAll rs n a):∀ t,MetAll rs n (foldN f t a)
 | 0=>h
 | t+1=>hf t _ (foldN_met hf h t)
theorem cornL_met (rs:List Int) (n:Nat):MetAll rs n (cornL rs n):=by
 have h0:MetAll rs n []:=⟨0,rfl,fun j hj=>absurd hj (by omega)⟩;cases e:cornB rs n
 ·rw [cornL_f e]; exact h0
 ·rw [cornL_t e]
  exact foldN_met (fun i a ha=>foldN_met (fun j a ha=>foldN_met (fun j a ha=>crStep_met ha) ha _) ha _) h0 _
theorem thr_stands {zs:List Int} {n:Nat} {ls:List Int} {q j:Nat} (h:j<thrN zs n ls q):stB zs n ls q (nth (thrL zs n ls q) (j*4)) (nth (thrL zs n ls q) (j*4+1)) (nth (thrL zs n ls q) (j*4+2)) (nth (thrL zs n ls q) (j*4+3))=true:=by
 obtain ⟨m,hl,ha⟩:=cornL_met (rowsZ zs n ls q) (rowsN zs n ls q);have hm:thrN zs n ls q=m:=by unfold thrN cornN; omega
 have hj:=ha j (by omega);have hB:cornB (rowsZ zs n ls q) (rowsN zs n ls q)=true:=by
  cases e:cornB (rowsZ zs n ls q) (rowsN zs n ls q)
  ·exfalso
   unfold thrN cornN at h;rw [cornL_f e] at h;simp at h
  ·rfl
 unfold cornB at hB;rw [Bool.and_eq_true] at hB;have hr:=allB_out hB.1;have hi:=inB_iff.1 hB.2;have ht:=allB_out hj.2;unfold stB thrL;refine fulAll_t (inB_iff.2 (by omega)) (fun i hi => ?_);have h1:=hr i hi;have h2:=ht i hi;unfold fulAt;rw [fulB_t hj.1 h1];exact h2
end X
namespace X
open Go.RowKit
def ThrAll (acc:List Int):Prop:=∃ q,acc.length=q*4∧∀ j,j<q→thrB (nth acc (j*4)) (nth acc (j*4+1)) (nth acc (j*4+2)) (nth acc (j*4+3))=true
theorem nth_left {xs ys:List Int} {j:Nat} (h:j<xs.length):nth (xs ++ ys) j=nth xs j:=by
 rw [nth_get _ _ (by rw [List.length_append]; omega),nth_get _ _ h,List.getElem_append_left h]
theorem nth_right {xs ys:List Int} {j:Nat} (h:j<ys.length):nth (xs ++ ys) (xs.length+j)=nth ys j:=by
 rw [nth_get _ _ (by rw [List.length_append]; omega),nth_get _ _ h,List.getElem_append_right (by omega)]
 congr 1
 omega
theorem crStep_thr {rs:List Int} {n i k m:Nat} {acc:List Int} (h:ThrAll acc):ThrAll (crStep rs n i k m acc):=by
 unfold crStep;split
 ·rename_i hc
  simp only [Bool.and_eq_true] at hc;have ht:=cr_thr rs hc.1;obtain ⟨q,hl,ha⟩:=h;refine ⟨q+1,by rw [List.length_append,hl]; simp; omega,fun j hj => ?_⟩
  by_cases e:j<q
  ·rw [nth_left (by omega),nth_left (by omega),nth_left (by omega),nth_left (by omega)]
   exact ha j e
  ·obtain rfl:j=q:=by omega
   have e0:j*4=acc.length+0:=by omega
   rw [e0,Nat.add_assoc,Nat.add_assoc,Nat.add_assoc,nth_right (by simp),nth_right (by simp),nth_right (by simp),nth_right (by simp)];exact ht
 ·exact h
theorem foldN_thr {f:Nat→List Int→List Int} (hf:∀ j a,ThrAll a→ThrAll (f j a)) {a:List Int} (h:ThrAll a):∀ t,ThrAll (foldN f t a)
 | 0=>h
 | t+1=>hf t _ (foldN_thr hf h t)
theorem cornL_thr (rs:List Int) (n:Nat):ThrAll (cornL rs n):=by
 have h0:ThrAll []:=⟨0,rfl,fun j hj=>absurd hj (by omega)⟩;cases e:cornB rs n
 ·rw [cornL_f e]; exact h0
 ·rw [cornL_t e]
  exact foldN_thr (fun i a ha=>foldN_thr (fun j a ha=>foldN_thr (fun j a ha=>crStep_thr ha) ha _) ha _) h0 _
end X
section
def pX (zs:List Int) (q:Nat):Int:=nth zs (q*2)
def pY (zs:List Int) (q:Nat):Int:=nth zs (q*2+1)
theorem sd_eq (zs:List Int) (i j k:Nat):sd zs i j k=(pX zs j - pX zs i)*(pY zs k - pY zs i) - (pY zs j - pY zs i)*(pX zs k - pX zs i):=rfl
def dX (zs:List Int) (i o:Nat):Int:=pX zs (2*i) - pX zs (2*o+1)
def dY (zs:List Int) (i o:Nat):Int:=pY zs (2*i) - pY zs (2*o+1)
def StrI (zs:List Int) (n:Nat):Prop :=
 (∀ i o,i<n→o<n→dX zs i o=0→dY zs i o≤0) ∧
 (∀ i o i' o',i<n→o<n→i'<n→o'<n→0<dX zs i o→dX zs i' o'<0→dY zs i o*(-dX zs i' o')≤(-dY zs i' o')*dX zs i o)
def LineOk (zs:List Int) (n u v:Nat):Prop:=pX zs u<pX zs v∧∀ m,m<n→sd zs u v (2*m)≤0∧0≤sd zs u v (2*m+1)
def StrS (zs:List Int) (n:Nat):Prop:=∃ u v,u<2*n∧v<2*n∧LineOk zs n u v
theorem strI_of_strS {zs:List Int} {n:Nat} (h:StrS zs n):StrI zs n:=by
 obtain ⟨u,v,_,_,hx,hl⟩:=h;have key:∀ i o,i<n→o<n→(pX zs v - pX zs u)*dY zs i o≤(pY zs v - pY zs u)*dX zs i o:=by
  intro i o hi ho;have h1:=(hl i hi).1;have h2:=(hl o ho).2;rw [sd_eq] at h1 h2;unfold dX dY;grind
 have hD:0<pX zs v - pX zs u:=by omega
 generalize pX zs v - pX zs u=D at *
 generalize pY zs v - pY zs u=G at *
 refine ⟨fun i o hi ho e => ?_,fun i o i' o' hi ho hi' ho' h1 h2 => ?_⟩
 ·have:=key i o hi ho
  rw [e,Int.mul_zero] at this;exact Int.nonpos_of_mul_nonpos_right this hD
 ·have k1:=key i o hi ho
  have k2:=key i' o' hi' ho';generalize dX zs i o=a at *
  generalize dY zs i o=b at *
  generalize dX zs i' o'=c at *
  generalize dY zs i' o'=d at *
  have m1:(D*b)*(-c)≤(G*a)*(-c):=Int.mul_le_mul_of_nonneg_right k1 (by omega);have m2:(D*d)*a≤(G*c)*a:=Int.mul_le_mul_of_nonneg_right k2 (by omega);have m3:D*(b*(-c))≤D*((-d)*a):=by grind
  exact Int.le_of_mul_le_mul_left m3 hD
end
end Go.Proofs.YtpblihmhpalkfaaGreat
