/-
  Texts that the law stands on, part 3.
-/
import Derived.Test.YtjcgklifabcfkaaGreatFailingRibsP1
import Derived.Test.YtjcgklifabcfkaaGreatFailingRibsP2
import Derived.Test.YtjcgklifabcfkaaGreatN10
import Derived.Test.YtjcgklifabcfkaaGreatN18
import Derived.Test.YtjcgklifabcfkaaGreatN21
import Derived.Test.YtjcgklifabcfkaaGreatN23
import Derived.Deep.RegionHeld3
set_option maxRecDepth 100000
set_option linter.unusedVariables false
set_option linter.unusedSimpArgs false
namespace Go.Proofs.YtjcgklifabcfkaaGreat
namespace X
open Go.RowKit
def pairV (u v:Value) (j:Nat):Value:=if j=0 then u else v
theorem row_pair (w:World) (u v:Value) (t:TypeId):(w.alloc (.cells #[u,v] t)).rowIs w.heap.size t 2 (pairV u v):=World.rowIs_alloc w #[u,v] t (pairV u v) (fun i hi=>by simp at hi; match i,hi with | 0,_=>rfl | 1,_=>rfl)
set_option maxRecDepth 100000 in
set_option maxHeartbeats 800000 in
theorem toVault_any (A:Option Addr) (n c:Nat) (L:List (Nat × List Int)) (B:Option Addr) (q d:Nat) (M:List (Nat × List Int)) (w:World) (h:NestAt w w.heap.size 4 A n L) (hn:n≤1048576) (hr:∀ i,i<n→rowN L i≤1048576) (hl:NestAt w w.heap.size 3 B q M) (hq:q≤1048576) (hs:∀ i,i<q→rowN M i≤1048576) :
  Calls Tryzx.prog 9 #[.agg #[.slice A n c,.slice B q d]] w fun e w'=>∃ g g',e = .returned (.agg #[.slice (some ⟨g,0,none⟩) n n,.slice (some ⟨g',0,none⟩) q q])∧w.heap.size≤g∧w.heap.size≤g'∧NestRow w' g 45 110 4 n L∧NestRow w' g' 46 77 3 q M∧Below w.heap.size w w':=by
 have HR:=Lib.hid hr;have HS:=Lib.hid hs;obtain ⟨W3,hW⟩:∃ W3:World,W3=(((w.alloc (.cells #[.slice A n c,.slice B q d] 25)).alloc (.cells #[.slice none 0 0,.slice none 0 0] 31)).alloc (.cells #[.slice none 0 0,.slice none 0 0] 31)):=⟨_,rfl⟩;have hsz:W3.heap.size=w.heap.size+1+1+1:=by rw [hW]; simp
 have b3:Below w.heap.size w W3:=by rw [hW]; exact (((Below.refl _ w).alloc (Nat.le_refl _) _).alloc (by simp) _).alloc (by simp; omega) _
 have h3:=h.after b3;have l3:=hl.after b3;have ra:RowF W3 w.heap.size 25 2 (pairV (.slice A n c) (.slice B q d)):=by rw [hW]; exact ((RowF.of_row (row_pair w _ _ _)).alloc _).alloc _
 have rr:RowF W3 (w.heap.size+1) 31 2 (pairV (.slice none 0 0) (.slice none 0 0)):=by
  rw [hW];have h:=(RowF.of_row (row_pair (w.alloc (.cells #[.slice A n c,.slice B q d] 25)) (.slice none 0 0) (.slice none 0 0) 31)).alloc (.cells #[.slice none 0 0,.slice none 0 0] 31);simpa using h
 have ro:RowF W3 (w.heap.size+1+1) 31 2 (pairV (.slice none 0 0) (.slice none 0 0)):=by
  rw [hW];have h:=RowF.of_row (row_pair ((w.alloc (.cells #[.slice A n c,.slice B q d] 25)).alloc (.cells #[.slice none 0 0,.slice none 0 0] 31)) (.slice none 0 0) (.slice none 0 0) 31);simpa using h
 have HL:=Lib.hid hl;clear h hl hr hs;have HZ:=Lib.hid hsz;go_enter Tryzx.func9,Tryz.ntmps9;go_wp2_with fail
 rw [← hW];clear hW;refine (toArchS_any A n c L _ h3 hn HR.out).mono ?_;rintro e w1 ⟨g,rfl,hg,r1,hb1⟩;have hg3:w.heap.size+1+1+1≤g:=by omega
 have b1:=below_then b3 hb1;have l1:=l3.after hb1;have ra1:=ra.after hb1;have rr1:=rr.after hb1;have ro1:=ro.after hb1;have z1:=hb1.size;have o0:w1.cell? ⟨w.heap.size+1+1,0,none⟩=some (.slice none 0 0):=ro1.cell (by omega);have f0:=ro1.frozen 0;have a1:w1.cell? ⟨w.heap.size,1,none⟩=some (.slice B q d):=ra1.cell (by omega);have b1':=b1.setCell (p:=⟨w.heap.size+1+1,0,none⟩) (by simp; omega) (.slice (some ⟨g,0,none⟩) n n)
 have l1':=(HL.out.below b1').mono b1'.size;have r1':=r1.set_lt (p:=⟨w.heap.size+1+1,0,none⟩) (by simp; omega) (.slice (some ⟨g,0,none⟩) n n)
 have ro1':=ro1.set 0 (.slice (some ⟨g,0,none⟩) n n);have rr1':=rr1.set_other (p:=⟨w.heap.size+1+1,0,none⟩) (by simp) (.slice (some ⟨g,0,none⟩) n n);have HB1:=Lib.hid b1';clear b1 b1' l1 l3 h3 b3 ra rr ro ra1 rr1 hb1 r1 HZ;go_wp2_with fail
 refine (toLoadSS_any B q d M _ l1' hq HS.out).mono ?_;rintro e w2 ⟨g',rfl,hg',r2,hb2⟩;have z2:=hb2.size;have zs:(w1.setCell ⟨w.heap.size+1+1,0,none⟩ (.slice (some ⟨g,0,none⟩) n n)).heap.size=w1.heap.size:=by simp [World.setCell]
 have s2:=r1'.after hb2;have ro2:=ro1'.after hb2;have rr2:=rr1'.after hb2;have HB2:=Lib.hid (HB1.out.trans (hb2.mono HB1.out.size));rw [zs] at hg' z2;clear zs;have o0':w2.cell? ⟨w.heap.size+1+1,0,none⟩=some (.slice (some ⟨g,0,none⟩) n n):=ro2.cell (by omega);have o1':w2.cell? ⟨w.heap.size+1+1,1,none⟩=some (.slice none 0 0):=ro2.cell (by omega);have f1':=ro2.frozen 1;have r0':w2.cell? ⟨w.heap.size+1,0,none⟩=some (.slice none 0 0):=rr2.cell (by omega);have r1'':w2.cell? ⟨w.heap.size+1,1,none⟩=some (.slice none 0 0):=rr2.cell (by omega);have k0:=rr2.frozen 0;have k1:=rr2.frozen 1;have HS2:=Lib.hid s2;have HR2:=Lib.hid r2;clear s2 r2 ro2 rr2 hb2 ro1' rr1' r1' l1' o0 f0 ro1 HB1;go_wp2;refine bodyPost_ret (v := .agg #[.slice (some ⟨g,0,none⟩) n n,.slice (some ⟨g',0,none⟩) q q]) (by simp [results,Tryz.results9,go_sem, *]) rfl ⟨g,g',rfl,by omega,by omega,?_,?_,?_⟩
 ·exact ((HS2.out.set_lt (by simp; omega) _).set_lt (by simp; omega) _).set_lt (by simp; omega) _
 ·exact ((HR2.out.set_lt (by simp; omega) _).set_lt (by simp; omega) _).set_lt (by simp; omega) _
 ·exact ((HB2.out.setCell (p:=⟨w.heap.size+1+1,1,none⟩) (by simp; omega) _).setCell (p:=⟨w.heap.size+1,0,none⟩) (by simp) _).setCell (p:=⟨w.heap.size+1,1,none⟩) (by simp) _
def SzVPost (l:Int) (n:Nat) (L:List (Nat × List Int)) (q:Nat) (M:List (Nat × List Int)) (w:World) (e:Ending) (w':World):Prop :=
 ∃ r:Int,e = .returned (.int .i64 r)∧Below w.heap.size w w'∧(r = -1 ∨ (0≤r∧r≤l∧((n:Int)≤l∧(∀ i,i<n→(rowN L i:Int)≤l)∧(sumN L n:Int)≤l)∧((q:Int)≤l∧(∀ i,i<q→(rowN M i:Int)≤l)∧(sumN M q:Int)≤l)))
theorem szVPost_no {l:Int} {n:Nat} {L:List (Nat × List Int)} {q:Nat} {M:List (Nat × List Int)} {w w':World} (hb:Below w.heap.size w w'):SzVPost l n L q M w (.returned (.int .i64 (-1))) w':=⟨-1,rfl,hb,.inl rfl⟩
theorem szVault_any (A:Option Addr) (n c:Nat) (L:List (Nat × List Int)) (B:Option Addr) (q d:Nat) (M:List (Nat × List Int)) (l:Int) (w:World) (h:NestAt w w.heap.size 4 A n L) (hl:NestAt w w.heap.size 3 B q M) (hl0:0≤l) (hl1:l≤1048576) (hn:n≤9223372036854775807) (hq:q≤9223372036854775807) :
  Calls Tryzx.prog 7 #[.agg #[.slice A n c,.slice B q d],.int .i64 l] w (SzVPost l n L q M w):=by
 have b0:Below w.heap.size w (w.alloc (.cells #[.slice A n c,.slice B q d] 25)):=(Below.refl _ _).alloc (Nat.le_refl _) _;have h0:=h.after b0;have l0:=hl.after b0;have ra:RowF (w.alloc (.cells #[.slice A n c,.slice B q d] 25)) w.heap.size 25 2 (pairV (.slice A n c) (.slice B q d)):=RowF.of_row (row_pair w _ _ _);clear h hl;go_enter Tryzx.func7,Tryz.ntmps7;go_wp2_with fail
 refine (szArchS_any A n c L _ _ h0 hl0 hl1 hn).mono ?_;rintro e w1 ⟨r,rfl,hb1,hr⟩;have b1:=below_then b0 hb1;rcases hr with rfl | ⟨hr0,hr1,hr2,hr3,hr4⟩
 ·go_wp2
  go_ret;exact szVPost_no b1
 have ra1:=ra.after hb1;have a1:w1.cell? ⟨w.heap.size,1,none⟩=some (.slice B q d):=ra1.cell (by omega);have l1:=l0.after hb1;have ht:¬ r<0:=by omega
 have HR3:=Lib.hid hr3;clear hr3 b0 h0 l0 ra hb1 ra1;go_wp2_with fail
 refine (szLoadSS_any B q d M _ _ l1 hr0 (by omega) hq).mono ?_;rintro e w2 ⟨r',rfl,hb2,hr'⟩;have b2:=below_then b1 hb2;rcases hr' with rfl | ⟨hs0,hs1,hs2,hs3,hs4⟩
 ·go_wp2
  go_ret;exact szVPost_no b2
 have ht':¬ r'<0:=by omega
 have HS3:=Lib.hid hs3;clear hs3;go_wp2;go_ret;exact ⟨r',rfl,b2,.inr ⟨hs0,by omega,⟨hr2,HR3.out,hr4⟩,by omega,fun i hi=>by have:=HS3.out i hi; omega,by omega⟩⟩
theorem eqVault_same (A A':Option Addr) (n c c':Nat) (L:List (Nat × List Int)) (B B':Option Addr) (q d d':Nat) (M:List (Nat × List Int)) (w:World) (h:NestAt w w.heap.size 4 A n L) (h':NestAt w w.heap.size 4 A' n L) (hn:n≤1048576) (hr:∀ i,i<n→rowN L i≤1048576) (hl:NestAt w w.heap.size 3 B q M) (hl':NestAt w w.heap.size 3 B' q M) (hq:q≤1048576) (hs:∀ i,i<q→rowN M i≤1048576) :
  Calls Tryzx.prog 11 #[.agg #[.slice A n c,.slice B q d],.agg #[.slice A' n c',.slice B' q d']] w fun e w'=>e = .returned (.bool true)∧Below w.heap.size w w':=by
 obtain ⟨W2,hW⟩:∃ W2:World,W2=((w.alloc (.cells #[.slice A n c,.slice B q d] 31)).alloc (.cells #[.slice A' n c',.slice B' q d'] 31)):=⟨_,rfl⟩;have hsz:W2.heap.size=w.heap.size+1+1:=by rw [hW]; simp
 have b2:Below w.heap.size w W2:=by rw [hW]; exact ((Below.refl _ w).alloc (Nat.le_refl _) _).alloc (by simp) _
 have g1:=h.after b2;have g2:=h'.after b2;have g3:=hl.after b2;have g4:=hl'.after b2;have ra:RowF W2 w.heap.size 31 2 (pairV (.slice A n c) (.slice B q d)):=by rw [hW]; exact (RowF.of_row (row_pair w _ _ _)).alloc _
 have rb:RowF W2 (w.heap.size+1) 31 2 (pairV (.slice A' n c') (.slice B' q d')):=by
  rw [hW];have h:=RowF.of_row (row_pair (w.alloc (.cells #[.slice A n c,.slice B q d] 31)) (.slice A' n c') (.slice B' q d') 31);simpa using h
 have HR:=Lib.hid hr;have HS:=Lib.hid hs;clear h h' hl hl' hr hs hsz;go_enter Tryzx.func11,Tryz.ntmps11;go_wp2_with fail
 rw [← hW];clear hW;refine (eqArchS_same _ _ _ _ _ L _ g1 g2 hn HR.out).mono ?_;rintro e w1 ⟨rfl,hb1⟩;have b1:=below_then b2 hb1;have ra1:=ra.after hb1;have rb1:=rb.after hb1;have a1:w1.cell? ⟨w.heap.size,1,none⟩=some (.slice B q d):=ra1.cell (by omega);have a2:w1.cell? ⟨w.heap.size+1,1,none⟩=some (.slice B' q d'):=rb1.cell (by omega);have k3:=g3.after hb1;have k4:=g4.after hb1;clear b2 g1 g2 g3 g4 ra rb hb1 ra1 rb1;go_wp2_with fail
 refine (eqLoadSS_same _ _ _ _ _ M _ k3 k4 hq HS.out).mono ?_;rintro e w3 ⟨rfl,hb3⟩;have b3:=below_then b1 hb3;go_wp2;go_ret;exact ⟨rfl,b3⟩
end X
namespace X
open Go.RowKit
structure Mid (lo hi:Nat) (w w':World):Prop where
 os:w'.os=w.os
 tape:w'.tape=w.tape
 output:w'.output=w.output
 size:w.heap.size≤w'.heap.size
 block:∀ k,k<w.heap.size→(k<lo ∨ hi≤k)→w'.heap[k]?=w.heap[k]?
theorem Mid.of_within {lo hi:Nat} {w w':World} (h:Within lo hi w w'):Mid lo hi w w':=⟨h.os,h.tape,h.output,Nat.le_of_eq h.size.symm,fun k _ hk=>h.block k hk⟩
theorem Mid.of_below {lo hi:Nat} {w w':World} (h:Below w.heap.size w w'):Mid lo hi w w':=⟨h.os,h.tape,h.output,h.size,fun k h1 _=>h.block k h1⟩
theorem Mid.trans {lo hi:Nat} {a b c:World} (h:Mid lo hi a b) (h':Mid lo hi b c):Mid lo hi a c :=
 ⟨h'.os.trans h.os,h'.tape.trans h.tape,h'.output.trans h.output,Nat.le_trans h.size h'.size,fun k h1 hk=>(h'.block k (by have:=h.size; omega) hk).trans (h.block k h1 hk)⟩
structure Turn2 (base:Nat) (E F:TypeId) (w w':World):Prop where
 os:w'.os=w.os
 tape:w'.tape=w.tape
 output:w'.output=w.output
 size:w.heap.size≤w'.heap.size
 block:∀ b,b<w.heap.size→(b<base ∨ ((∀ c,w.heap[b]? ≠ some (.cells c E))∧∀ c,w.heap[b]? ≠ some (.cells c F)))→w'.heap[b]?=w.heap[b]?
theorem Turn2.of_below {base:Nat} {E F:TypeId} {w w':World} (h:Below w.heap.size w w'):Turn2 base E F w w':=⟨h.os,h.tape,h.output,h.size,fun k h1 _=>h.block k h1⟩
theorem Turn2.trans {base:Nat} {E F:TypeId} {a b c:World} (h:Turn2 base E F a b) (h':Turn2 base E F b c):Turn2 base E F a c :=
 ⟨h'.os.trans h.os,h'.tape.trans h.tape,h'.output.trans h.output,Nat.le_trans h.size h'.size,fun k h1 hk=>by
  have e:=h.block k h1 hk;refine (h'.block k (by have:=h.size; omega) ?_).trans e
  rw [e]; exact hk⟩
theorem Turn2.below {base:Nat} {E F:TypeId} {w w':World} (h:Turn2 base E F w w') (hb:base≤w.heap.size):Below base w w':=⟨h.os,h.tape,h.output,h.size,fun k hk=>h.block k (by omega) (.inl hk)⟩
set_option maxRecDepth 100000 in
set_option maxHeartbeats 800000 in
theorem markVault_mid (lo hi g n c:Nat) (L:List (Nat × List Int)) (j q d:Nat) (M:List (Nat × List Int)) (k0:Int) (w:World) (h:NestInts w lo hi g 45 110 4 n L) (hl:NestInts w lo hi j 46 77 3 q M) (hi0:hi≤w.heap.size)
  (hn:n≤1048576) (hs:sumN L n≤1048576) (hr:∀ i,i<n→rowN L i≤1048576) (hq:q≤1048576) (ht:sumN M q≤1048576) (hu:∀ i,i<q→rowN M i≤1048576) (h0:0≤k0) (h1:k0≤1000) :
  Calls Tryzx.prog 24 #[.agg #[.slice (some ⟨g,0,none⟩) n c,.slice (some ⟨j,0,none⟩) q d],.int .i64 k0] w fun e w'=>e = .returned (.int .i64 (k0+(sumN L n*4:Nat)+(sumN M q*3:Nat)))∧Mid lo hi w w':=by
 have HR:=Lib.hid hr;have HU:=Lib.hid hu;obtain ⟨W1,hW⟩:∃ W1:World,W1=w.alloc (.cells #[.slice (some ⟨g,0,none⟩) n c,.slice (some ⟨j,0,none⟩) q d] 31):=⟨_,rfl⟩;have b0:Below w.heap.size w W1:=by rw [hW]; exact (Below.refl _ _).alloc (Nat.le_refl _) _
 have ra:RowF W1 w.heap.size 31 2 (pairV (.slice (some ⟨g,0,none⟩) n c) (.slice (some ⟨j,0,none⟩) q d)):=by rw [hW]; exact RowF.of_row (row_pair w _ _ _)
 have hA:=h.after b0;have HJ:=Lib.hid (hl.after b0);clear h hl hr hu;go_enter Tryzx.func24,Tryz.ntmps24;go_wp2_with fail
 rw [← hW];clear hW;refine (markArchS_ty lo hi g n c L k0 W1 hA hn hs HR.out h0 (by omega)).mono ?_;rintro e w1 ⟨rfl,hw1,ht1⟩;have hm1:=(Mid.of_below (lo:=lo) (hi:=hi) b0).trans (Mid.of_within hw1);have hj1:=HJ.out.turn ht1 (by decide) (by decide);have ra1:RowF w1 w.heap.size 31 2 (pairV (.slice (some ⟨g,0,none⟩) n c) (.slice (some ⟨j,0,none⟩) q d)):=ra.of_block (hw1.block _ (.inr hi0));have a1:w1.cell? ⟨w.heap.size,1,none⟩=some (.slice (some ⟨j,0,none⟩) q d):=ra1.cell (by omega);clear ra ra1 hA;go_wp2_with fail
 refine (markLoadSS_ty lo hi j q d M _ w1 hj1 hq ht HU.out (by omega) (by omega)).mono ?_;rintro e w2 ⟨rfl,hw2,_⟩;have hm2:=hm1.trans (Mid.of_within hw2);go_wp2;go_ret;exact ⟨rfl,hm2⟩
end X
namespace X
open Go.RowKit
structure SwA (w wr:World) (A0:Option Addr) (n0 c0:Nat) (L0:List (Nat × List Int)) (B0:Option Addr) (p0 d0:Nat) (M0:List (Nat × List Int)):Prop where
 below:Below w.heap.size w wr
 ribs:NestAt wr w.heap.size 4 A0 n0 L0
 loads:NestAt wr w.heap.size 3 B0 p0 M0
 box:RowF wr w.heap.size 25 2 (pairV (.slice A0 n0 c0) (.slice B0 p0 d0))
structure VB (wr:World) (lim b:Nat) (A:Option Addr) (n c:Nat) (L:List (Nat × List Int)) (B:Option Addr) (q d:Nat) (M:List (Nat × List Int)):Prop where
 ribs:NestAt wr lim 4 A n L
 loads:NestAt wr lim 3 B q M
 box:RowF wr b 31 2 (pairV (.slice A n c) (.slice B q d))
 lt:b<lim
 le:lim≤wr.heap.size
section
variable {w wr w' : World} {A0 B0 A B : Option Addr} {n0 c0 p0 d0 n c q d lim b : Nat} {L0 M0 L M : List (Nat × List Int)}
theorem SwA.start (h:NestAt w w.heap.size 4 A0 n0 L0) (hl:NestAt w w.heap.size 3 B0 p0 M0):SwA w (w.alloc (.cells #[.slice A0 n0 c0,.slice B0 p0 d0] 25)) A0 n0 c0 L0 B0 p0 d0 M0:=by
 have hb:Below w.heap.size w (w.alloc (.cells #[.slice A0 n0 c0,.slice B0 p0 d0] 25)):=(Below.refl _ _).alloc (Nat.le_refl _) _;exact ⟨hb,h.below hb,hl.below hb,RowF.of_row (row_pair w _ _ _)⟩
theorem SwA.keep (h:SwA w wr A0 n0 c0 L0 B0 p0 d0 M0) (hb:Below lim wr w') (hl:w.heap.size<lim):SwA w w' A0 n0 c0 L0 B0 p0 d0 M0 :=
 ⟨h.below.trans (hb.mono (by omega)),h.ribs.below (hb.mono (by omega)),h.loads.below (hb.mono (by omega)),h.box.of_block (hb.block _ hl)⟩
theorem SwA.after (h:SwA w wr A0 n0 c0 L0 B0 p0 d0 M0) (hb:Below wr.heap.size wr w'):SwA w w' A0 n0 c0 L0 B0 p0 d0 M0:=h.keep hb h.box.lt
theorem SwA.nR (h:SwA w wr A0 n0 c0 L0 B0 p0 d0 M0):NestAt wr wr.heap.size 4 A0 n0 L0:=h.ribs.mono h.below.size
theorem SwA.nL (h:SwA w wr A0 n0 c0 L0 B0 p0 d0 M0):NestAt wr wr.heap.size 3 B0 p0 M0:=h.loads.mono h.below.size
theorem SwA.cells (h:SwA w wr A0 n0 c0 L0 B0 p0 d0 M0):wr.cell? ⟨w.heap.size,0,none⟩=some (.slice A0 n0 c0)∧wr.cell? ⟨w.heap.size,1,none⟩=some (.slice B0 p0 d0):=⟨h.box.cell (i:=0) (by omega),h.box.cell (i:=1) (by omega)⟩
theorem VB.keep (h:VB wr lim b A n c L B q d M) {lim':Nat} (hb:Below lim' wr w') (hl:lim≤lim'):VB w' lim b A n c L B q d M :=
 ⟨h.ribs.below (hb.mono hl),h.loads.below (hb.mono hl),h.box.of_block (hb.block _ (by have:=h.lt; omega)),h.lt,Nat.le_trans h.le hb.size⟩
theorem VB.after (h:VB wr lim b A n c L B q d M) (hb:Below wr.heap.size wr w'):VB w' lim b A n c L B q d M:=h.keep hb h.le
theorem VB.nR (h:VB wr lim b A n c L B q d M):NestAt wr wr.heap.size 4 A n L:=h.ribs.mono h.le
theorem VB.nL (h:VB wr lim b A n c L B q d M):NestAt wr wr.heap.size 3 B q M:=h.loads.mono h.le
theorem VB.cells (h:VB wr lim b A n c L B q d M):wr.cell? ⟨b,0,none⟩=some (.slice A n c)∧wr.cell? ⟨b,1,none⟩=some (.slice B q d):=⟨h.box.cell (i:=0) (by omega),h.box.cell (i:=1) (by omega)⟩
theorem VB.new (h:NestAt wr wr.heap.size 4 A n L) (hl:NestAt wr wr.heap.size 3 B q M):VB (wr.alloc (.cells #[.slice A n c,.slice B q d] 31)) (wr.heap.size+1) wr.heap.size A n c L B q d M:=by
 have hb:Below wr.heap.size wr (wr.alloc (.cells #[.slice A n c,.slice B q d] 31)):=(Below.refl _ _).alloc (Nat.le_refl _) _;exact ⟨(h.below hb).mono (by omega),(hl.below hb).mono (by omega),RowF.of_row (row_pair wr _ _ _),by omega,by simp⟩
theorem Mid.below {lo hi:Nat} (h:Mid lo hi wr w') (hl:lo≤wr.heap.size):Below lo wr w':=⟨h.os,h.tape,h.output,h.size,fun k hk=>h.block k (by omega) (.inl hk)⟩
end
theorem ownV_mid {w wr:World} {lo hi base:Nat} {E:TypeId} {v:Value} {xs:List Int} (ho:OwnV w base E v xs) (h:Mid lo hi w wr) (hb:hi≤base):OwnV wr base E v xs:=by
 rcases ho.form with ⟨rfl,rfl⟩ | ⟨g',cap,rfl,hi'⟩
 ·exact OwnV.nil _ _ _
 ·refine ⟨hi'.1,?_⟩
  rcases hi'.2 with h2 | ⟨g'',cap',cur,h1,h2,h3,hr⟩
  ·exact .inl h2
  ·simp at h1
   obtain ⟨rfl,rfl⟩:=h1;exact .inr ⟨g',cap,cur,rfl,h2,(h.block g' (Array.getElem?_eq_some_iff.1 h3).1 (.inr (by omega))).trans h3,hr⟩
theorem ownV_keepLow {w wr:World} {base base':Nat} {E:TypeId} {v:Value} {xs:List Int} (ho:OwnV w base E v xs) (hall:∀ k,v.ownBlock=some k→k<base') (h:Below base' w wr):OwnV wr base E v xs:=by
 rcases ho.form with ⟨rfl,rfl⟩ | ⟨g',cap,rfl,hi'⟩
 ·exact OwnV.nil _ _ _
 ·refine ⟨hi'.1,?_⟩
  rcases hi'.2 with h2 | ⟨g'',cap',cur,h1,h2,h3,hr⟩
  ·exact .inl h2
  ·simp at h1
   obtain ⟨rfl,rfl⟩:=h1;exact .inr ⟨g',cap,cur,rfl,h2,(h.block g' (hall g' rfl)).trans h3,hr⟩
theorem ownV_ownBelow {w:World} {base:Nat} {E:TypeId} {v:Value} {xs:List Int} (ho:OwnV w base E v xs):∀ k,v.ownBlock=some k→k<w.heap.size:=fun k hk=>(World.ownsRow.lt ho k hk).2
theorem failZ_len (L:List (Nat × List Int)) (n:Nat) (M:List (Nat × List Int)) (q:Nat):(failZ L n M q).length≤n:=by
 unfold failZ;split
 ·exact failTo_len L M n
 ·exact Nat.zero_le _
set_option maxRecDepth 100000 in
set_option maxHeartbeats 3200000 in
theorem fnExactFailingRibs.walk (A0:Option Addr) (n0 c0:Nat) (L0:List (Nat × List Int)) (hm0:n0≤maxLen) (B0:Option Addr) (p0 d0:Nat) (M0:List (Nat × List Int)) (hk0:p0≤maxLen) (w:World) (a0_:NestAt w w.heap.size 4 A0 n0 L0) (f0_:NestAt w w.heap.size 3 B0 p0 M0) :
  Calls Tryzx.prog 5 #[.agg #[.slice A0 n0 c0,.slice B0 p0 d0]] w fun e w'=>e = .returned (.bool true)∧Below w.heap.size w w':=by
 have hm0':n0≤9223372036854775807:=by unfold maxLen at hm0; omega
 have hk0':p0≤9223372036854775807:=by unfold maxLen at hk0; omega
 have S1:=Lib.hid (SwA.start (c0:=c0) (d0:=d0) a0_ f0_);have HL:=Lib.hid (And.intro a0_.1 f0_.1);have HLL:=Lib.hid (And.intro a0_.lens f0_.lens);clear a0_ f0_;go_enter Tryzx.func5,Tryz.ntmps5;go_wp2_with fail
 refine (szVault_any A0 n0 c0 L0 B0 p0 d0 M0 _ _ S1.out.nR S1.out.nL (by omega) (by omega) hm0' hk0').mono ?_;rintro e w2 ⟨r2,rfl,hb_2,hr2⟩;have S2:=Lib.hid (S1.out.after hb_2);clear S1 hb_2;rcases hr2 with rfl | hr2
 ·go_wp2
  go_ret;exact ⟨rfl,S2.out.below⟩
 obtain ⟨hr2a,hr2b,⟨hr2c,hr2d,hr2e⟩,hr2f,hr2g,hr2h⟩:=hr2;have HN0:=Lib.hid (show ∀ i,i<n0→rowN L0 i≤1048576 from fun i hi=>by have:=hr2d i hi; omega)
 have HM0:=Lib.hid (show ∀ i,i<p0→rowN M0 i≤1048576 from fun i hi=>by have:=hr2g i hi; omega)
 have hS0:sumN L0 n0≤1048576:=by omega
 have hT0:sumN M0 p0≤1048576:=by omega
 have hp0:p0≤1048576:=by omega
 have hn0:n0≤1048576:=by omega
 have ht0:¬ r2<0:=by omega
 clear hr2d hr2g;have hfl:=failZ_len L0 n0 M0 p0;obtain ⟨LL,hLL⟩:∃ LL,failZ L0 n0 M0 p0=LL:=⟨_,rfl⟩;have hk:LL.length≤1048576:=by rw [hLL] at hfl; omega
 have HLZ:=Lib.hid hLL;clear hLL hfl;obtain ⟨x0,y0⟩:=S2.out.cells;go_wp2_with fail
 clear x0 y0;refine (toVault_any A0 n0 c0 L0 B0 p0 d0 M0 _ S2.out.nR hn0 HN0.out S2.out.nL hp0 HM0.out).mono ?_;rintro e w3 ⟨g3,j3,rfl,_,_,r_3,q_3,hb_3⟩;have S3:=Lib.hid (S2.out.after hb_3);have E3:=Lib.hid (And.intro (r_3.nestAt HL.out.1 HLL.out.1 HN0.out) (q_3.nestAt HL.out.2 HLL.out.2 HM0.out));clear S2 hb_3 r_3 q_3;go_wp2_with fail
 refine (sFail_any _ _ _ L0 _ _ _ M0 _ E3.out.1 hn0 HN0.out E3.out.2 hp0 HM0.out).mono ?_;rintro e w4 ⟨v4,rfl,ho_4,hb_4⟩;rw [HLZ.out] at ho_4;obtain ⟨A4,l4,c4,rfl⟩:=ho_4.sliceN;obtain rfl:=ho_4.len;have V5:=Lib.hid ho_4;have S5:=Lib.hid (S3.out.after hb_4);clear ho_4 hb_4 S3 E3;obtain ⟨x0,y0⟩:=S5.out.cells;go_wp2_with fail
 clear x0 y0;refine (toVault_any A0 n0 c0 L0 B0 p0 d0 M0 _ S5.out.nR hn0 HN0.out S5.out.nL hp0 HM0.out).mono ?_;rintro e w6 ⟨g6,j6,rfl,hg6,hj6,r_6,q_6,hb_6⟩;have S6:=Lib.hid (S5.out.after hb_6);have V6:=Lib.hid (V5.out.below hb_6);have VL:=Lib.hid (ownV_ownBelow V5.out);have hlo:=S5.out.box.lt;have z6:=hb_6.size;have X6:=Lib.hid (And.intro (NestInts.of_row (lo:=w4.heap.size) (hi:=w6.heap.size) r_6 hg6 (Nat.le_refl _)) (NestInts.of_row (lo:=w4.heap.size) (hi:=w6.heap.size) q_6 hj6 (Nat.le_refl _)));have b7:Below w6.heap.size w6 (w6.alloc (.cells #[.slice (some ⟨g6,0,none⟩) n0 n0,.slice (some ⟨j6,0,none⟩) p0 p0] 31)):=(Below.refl _ _).alloc (Nat.le_refl _) _;have Y7:=Lib.hid (VB.new (c:=n0) (d:=p0) (r_6.nestAt HL.out.1 HLL.out.1 HN0.out) (q_6.nestAt HL.out.2 HLL.out.2 HM0.out));have X7:=Lib.hid (And.intro (X6.out.1.after b7) (X6.out.2.after b7));have S7:=Lib.hid (S6.out.after b7);have V7:=Lib.hid (V6.out.below b7);have Z7:=Lib.hid (show (w6.alloc (.cells #[.slice (some ⟨g6,0,none⟩) n0 n0,.slice (some ⟨j6,0,none⟩) p0 p0] 31)).heap.size=w6.heap.size+1 from by simp);clear r_6 q_6 hb_6 b7 S5 V5 S6 V6 X6 hg6 hj6;obtain ⟨x1,y1⟩:=Y7.out.cells;go_wp2_with fail
 clear x1 y1;refine (iFail_any _ _ _ L0 _ _ _ M0 _ Y7.out.nR hn0 HN0.out Y7.out.nL hp0 HM0.out).mono ?_;rintro e w8 ⟨v8,rfl,ho_8,hb_8⟩;rw [HLZ.out] at ho_8;obtain ⟨A8,l8,c8,rfl⟩:=ho_8.sliceN;obtain rfl:=ho_8.len;have z8:=hb_8.size;rw [Z7.out] at ho_8 z8;have O9:=Lib.hid ho_8;have S9:=Lib.hid (S7.out.after hb_8);have V9:=Lib.hid (V7.out.below hb_8);have Y9:=Lib.hid (Y7.out.after hb_8);have X9:=Lib.hid (And.intro (X7.out.1.after hb_8) (X7.out.2.after hb_8));clear ho_8 hb_8 S7 V7 Y7 X7;have eLL:=eqL_refl LL;go_wp2_with fail
 refine (eqIntS_any _ _ _ _ _ _ LL LL _ O9.out.intsAt V9.out.intsAt hk hk).mono ?_;rw [eLL];rintro e w10 ⟨rfl,hb⟩;have O10:=Lib.hid (O9.out.below hb);have S10:=Lib.hid (S9.out.after hb);have V10:=Lib.hid (V9.out.below hb);have Y10:=Lib.hid (Y9.out.after hb);have X10:=Lib.hid (And.intro (X9.out.1.after hb) (X9.out.2.after hb));clear hb O9 S9 V9 Y9 X9;obtain ⟨x1,y1⟩:=S10.out.cells;obtain ⟨x2,y2⟩:=Y10.out.cells;go_wp2_with fail
 go_region_held3 (fun w'=>(w'.cell? ⟨w6.heap.size,0,none⟩=some (.slice (some ⟨g6,0,none⟩) n0 n0)∧w'.cell? ⟨w6.heap.size,1,none⟩=some (.slice (some ⟨j6,0,none⟩) p0 p0))∧w'.cell? ⟨w.heap.size,0,none⟩=some (.slice A0 n0 c0)∧w'.cell? ⟨w.heap.size,1,none⟩=some (.slice B0 p0 d0)) (first | exact ⟨⟨x2,y2⟩,x1,y1⟩ | exact ⟨Y11.out.cells,S11.out.cells⟩ | exact ⟨Y12.out.cells,S12.out.cells⟩) ((first | (go_at_call 9; refine (toVault_any A0 n0 c0 L0 B0 p0 d0 M0 _ (by exact S10.out.nR) hn0 HN0.out (by exact S10.out.nL) hp0 HM0.out).mono ?_; rintro e w11 ⟨g11,j11,rfl,_,_,r_11,q_11,hbx⟩; have hb:=below_undrew hbx; have E1:=Lib.hid (And.intro (r_11.nestAt HL.out.1 HLL.out.1 HN0.out) (q_11.nestAt HL.out.2 HLL.out.2 HM0.out)); have Y11:=Lib.hid (Y10.out.after hb); have S11:=Lib.hid (S10.out.after hb); have V11:=Lib.hid (V10.out.below hb); have O11:=Lib.hid (O10.out.below hb); have X11:=Lib.hid (And.intro (X10.out.1.after hb) (X10.out.2.after hb)); clear hb hbx r_11 q_11) | (go_at_call 11; refine (eqVault_same _ _ _ _ _ L0 _ _ _ _ _ M0 _ (by exact Y11.out.nR) (by exact E1.out.1) hn0 HN0.out (by exact Y11.out.nL) (by exact E1.out.2) hp0 HM0.out).mono ?_; rintro e w12 ⟨rfl,hb⟩; have Y12:=Lib.hid (Y11.out.after hb); have S12:=Lib.hid (S11.out.after hb); have V12:=Lib.hid (V11.out.below hb); have O12:=Lib.hid (O11.out.below hb); have X12:=Lib.hid (And.intro (X11.out.1.after hb) (X11.out.2.after hb)); clear hb)));clear x1 y1 x2 y2 S10 V10 Y10 O10 X10 S11 V11 Y11 O11 X11 E1;obtain ⟨x2,y2⟩:=Y12.out.cells;go_wp2_with fail
 clear x2 y2;have z12:w6.heap.size≤w12.heap.size:=by have:=Y12.out.le; omega
 refine (markVault_mid w4.heap.size w6.heap.size g6 _ _ L0 j6 _ _ M0 _ _ X12.out.1 X12.out.2 z12 hn0 hS0 HN0.out hp0 hT0 HM0.out (by omega) (by omega)).mono ?_;rintro e w13 ⟨rfl,hm⟩;have S13:=Lib.hid (S12.out.keep (hm.below (by omega)) hlo);have V13:=Lib.hid (ownV_keepLow V12.out VL.out (hm.below (by omega)));have O13:=Lib.hid (ownV_mid O12.out hm (by omega));have z13:=hm.size;clear hm S12 V12 O12 Y12 X12;have pk:¬ (1:Int)+((sumN L0 n0*4:Nat):Int)+((sumN M0 p0*3:Nat):Int)<0:=by omega
 go_wp2_with fail
 refine (eqIntS_any _ _ _ _ _ _ LL LL _ O13.out.intsAt V13.out.intsAt hk hk).mono ?_;rw [eLL];rintro e w14 ⟨rfl,hb⟩;have O14:=Lib.hid (O13.out.below hb);have S14:=Lib.hid (S13.out.after hb);have V14:=Lib.hid (V13.out.below hb);have z14:=hb.size;clear hb O13 S13 V13 pk;go_wp2_with fail
 refine (markIntS_any _ _ _ LL 1 (w6.heap.size+1) _ O14.out hk (by omega) (by omega)).mono ?_;rintro e w15 ⟨rfl,ho_15,hb_15,hs_15⟩;have O15:=Lib.hid ho_15;have S15:=Lib.hid (S14.out.keep hb_15 (by omega));have V15:=Lib.hid (ownV_keepLow V14.out (fun k hk=>Nat.lt_of_lt_of_le (VL.out k hk) (by omega)) hb_15);clear ho_15 hb_15 hs_15 O14 S14 V14;go_wp2_with fail
 refine (heldIntS_any _ _ _ 1 _ O15.out.intsAt hk (by omega) (by omega)).mono ?_;rintro e w16 ⟨rfl,rfl⟩;have hnn:¬ (1+(LL.length:Int))<0:=by omega
 have tnn:((1+(LL.length:Int)) != (1+(LL.length:Int)))=false:=by simp
 obtain ⟨x1,y1⟩:=S15.out.cells;go_wp2_with fail
 clear x1 y1;refine (toVault_any A0 n0 c0 L0 B0 p0 d0 M0 _ S15.out.nR hn0 HN0.out S15.out.nL hp0 HM0.out).mono ?_;rintro e w17 ⟨g17,j17,rfl,_,_,r_17,q_17,hb⟩;have E17:=Lib.hid (And.intro (r_17.nestAt HL.out.1 HLL.out.1 HN0.out) (q_17.nestAt HL.out.2 HLL.out.2 HM0.out));have O17:=Lib.hid (O15.out.below hb);have S17:=Lib.hid (S15.out.after hb);have V17:=Lib.hid (V15.out.below hb);clear hb O15 S15 V15 r_17 q_17;go_wp2_with fail
 refine (iFail_any _ _ _ L0 _ _ _ M0 _ E17.out.1 hn0 HN0.out E17.out.2 hp0 HM0.out).mono ?_;rintro e w18 ⟨v18,rfl,ho_18,hb⟩;rw [HLZ.out] at ho_18;obtain ⟨A18,l18,c18,rfl⟩:=ho_18.sliceN;obtain rfl:=ho_18.len;have H19:=Lib.hid ho_18;have O19:=Lib.hid (O17.out.below hb);have S19:=Lib.hid (S17.out.after hb);have V19:=Lib.hid (V17.out.below hb);clear ho_18 hb O17 S17 V17 E17;go_wp2_with fail
 refine (eqIntS_any _ _ _ _ _ _ LL LL _ H19.out.intsAt V19.out.intsAt hk hk).mono ?_;rw [eLL];rintro e w20 ⟨rfl,hb⟩;have O20:=Lib.hid (O19.out.below hb);have S20:=Lib.hid (S19.out.after hb);clear hb O19 S19 V19 H19;go_wp2_with fail
 refine (heldIntS_any _ _ _ 1 _ O20.out.intsAt hk (by omega) (by omega)).mono ?_;rintro e w21 ⟨rfl,rfl⟩;go_wp2;go_ret;exact ⟨rfl,S20.out.below⟩
end X
end Go.Proofs.YtjcgklifabcfkaaGreat
