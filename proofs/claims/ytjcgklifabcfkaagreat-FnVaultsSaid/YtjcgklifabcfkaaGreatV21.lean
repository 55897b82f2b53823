/-
  Texts that the law stands on, part 21.
-/
import Derived.Test.YtjcgklifabcfkaaGreatV20
set_option maxRecDepth 100000
set_option linter.unusedVariables false
set_option linter.unusedSimpArgs false
set_option maxHeartbeats 12800000
namespace Go.Proofs.YtjcgklifabcfkaaGreat
namespace X
open Go.RowKit
def ShpPost (w:World) (e:Ending) (w':World):Prop :=
 ∃ (g m:Nat) (zs:List Int),e = .returned (.agg #[.slice (some ⟨g,0,none⟩) m m])/\w.heap.size<g/\RowF w' g 110 (m*4) (ints zs)/\zs.length=m*4/\archB zs m=true/\smZ zs 18/\Below w.heap.size w w'
theorem rowF_lit (w:World) (t:TypeId) (zs:List Int) (m:Nat) (hs:zs.length=m):RowF (w.alloc (.cells (zs.map (Value.int .i64)).toArray t)) w.heap.size t m (ints zs):=by
 subst hs;have h:=World.rowIs_alloc w (zs.map (Value.int .i64)).toArray t (ints zs) (fun j hj=>by
  simp at hj;simp [ints,nth_get _ _ hj,hj])
 have e:(zs.map (Value.int .i64)).toArray.size=zs.length:=by simp
 rw [e] at h;exact RowF.of_row h
def shp0:List Int := [-8,0,-11,0,-6,5,-8,7,-2,8,-3,11,2,8,3,11,6,5,8,7,8,0,11,0]
theorem shp0_ok:archB shp0 6=true:=by decide
theorem shp0_sm:smZ shp0 18:=smZ_of (by decide) (by decide)
def shp1:List Int := [0,0,-2,3,5,2,4,6,11,2,12,6,16,0,18,3]
theorem shp1_ok:archB shp1 4=true:=by decide
theorem shp1_sm:smZ shp1 18:=smZ_of (by decide) (by decide)
def shp2:List Int := [0,0,-3,0,2,6,0,8,6,11,6,14,10,6,12,8,12,0,15,0]
theorem shp2_ok:archB shp2 5=true:=by decide
theorem shp2_sm:smZ shp2 18:=smZ_of (by decide) (by decide)
def shp3:List Int := [0,0,-1,4,4,0,4,4,8,0,8,4,12,0,13,4]
theorem shp3_ok:archB shp3 4=true:=by decide
theorem shp3_sm:smZ shp3 18:=smZ_of (by decide) (by decide)
def shp4:List Int := [-9,0,-10,0,-6,7,-7,8,0,9,0,10,6,7,7,8,9,0,10,0]
theorem shp4_ok:archB shp4 5=true:=by decide
theorem shp4_sm:smZ shp4 18:=smZ_of (by decide) (by decide)
def shp5:List Int := [0,0,-2,2,6,4,6,7,12,2,14,4]
theorem shp5_ok:archB shp5 3=true:=by decide
theorem shp5_sm:smZ shp5 18:=smZ_of (by decide) (by decide)
theorem l06Shape_any (k:Int) (w:World) (h0:0<=k) (h1:k<6):Calls Tryzx.prog 61 #[.int .i64 k] w (ShpPost w):=by
 have HB0:Hid (Below w.heap.size w (w.alloc (.cells #[.slice none 0 0] 45))):=q_ (bnw _ _);have h:k=0 ∨ k=1 ∨ k=2 ∨ k=3 ∨ k=4 ∨ k=5:=by omega
 clear h0 h1;rcases h with rfl | rfl | rfl | rfl | rfl | rfl
 ·go_enter Tryzx.func61,Tryz.ntmps61
  go_wp2;refine bodyPost_ret (v := .agg #[.slice (some ⟨w.heap.size+1,0,none⟩) 6 6]) (by simp [results,Tryz.results61,go_sem]) rfl ?_;refine ⟨w.heap.size+1,6,shp0,rfl,by omega,?_,rfl,shp0_ok,shp0_sm,?_⟩
  ·have h:=rowF_lit (w.alloc (.cells #[.slice (some ⟨w.heap.size+1,0,none⟩) 6 6] 45)) 110 shp0 (6*4) rfl
   rw [World.size_alloc] at h;exact h
  ·exact ((bnw _ _).alloc (by simp) _)
 ·go_enter Tryzx.func61,Tryz.ntmps61
  go_wp2;refine bodyPost_ret (v := .agg #[.slice (some ⟨w.heap.size+1,0,none⟩) 4 4]) (by simp [results,Tryz.results61,go_sem]) rfl ?_;refine ⟨w.heap.size+1,4,shp1,rfl,by omega,?_,rfl,shp1_ok,shp1_sm,?_⟩
  ·have h:=rowF_lit (w.alloc (.cells #[.slice (some ⟨w.heap.size+1,0,none⟩) 4 4] 45)) 110 shp1 (4*4) rfl
   rw [World.size_alloc] at h;exact h
  ·exact ((bnw _ _).alloc (by simp) _)
 ·go_enter Tryzx.func61,Tryz.ntmps61
  go_wp2;refine bodyPost_ret (v := .agg #[.slice (some ⟨w.heap.size+1,0,none⟩) 5 5]) (by simp [results,Tryz.results61,go_sem]) rfl ?_;refine ⟨w.heap.size+1,5,shp2,rfl,by omega,?_,rfl,shp2_ok,shp2_sm,?_⟩
  ·have h:=rowF_lit (w.alloc (.cells #[.slice (some ⟨w.heap.size+1,0,none⟩) 5 5] 45)) 110 shp2 (5*4) rfl
   rw [World.size_alloc] at h;exact h
  ·exact ((bnw _ _).alloc (by simp) _)
 ·go_enter Tryzx.func61,Tryz.ntmps61
  go_wp2;refine bodyPost_ret (v := .agg #[.slice (some ⟨w.heap.size+1,0,none⟩) 4 4]) (by simp [results,Tryz.results61,go_sem]) rfl ?_;refine ⟨w.heap.size+1,4,shp3,rfl,by omega,?_,rfl,shp3_ok,shp3_sm,?_⟩
  ·have h:=rowF_lit (w.alloc (.cells #[.slice (some ⟨w.heap.size+1,0,none⟩) 4 4] 45)) 110 shp3 (4*4) rfl
   rw [World.size_alloc] at h;exact h
  ·exact ((bnw _ _).alloc (by simp) _)
 ·go_enter Tryzx.func61,Tryz.ntmps61
  go_wp2;refine bodyPost_ret (v := .agg #[.slice (some ⟨w.heap.size+1,0,none⟩) 5 5]) (by simp [results,Tryz.results61,go_sem]) rfl ?_;refine ⟨w.heap.size+1,5,shp4,rfl,by omega,?_,rfl,shp4_ok,shp4_sm,?_⟩
  ·have h:=rowF_lit (w.alloc (.cells #[.slice (some ⟨w.heap.size+1,0,none⟩) 5 5] 45)) 110 shp4 (5*4) rfl
   rw [World.size_alloc] at h;exact h
  ·exact ((bnw _ _).alloc (by simp) _)
 ·go_enter Tryzx.func61,Tryz.ntmps61
  go_wp2;refine bodyPost_ret (v := .agg #[.slice (some ⟨w.heap.size+1,0,none⟩) 3 3]) (by simp [results,Tryz.results61,go_sem]) rfl ?_;refine ⟨w.heap.size+1,3,shp5,rfl,by omega,?_,rfl,shp5_ok,shp5_sm,?_⟩
  ·have h:=rowF_lit (w.alloc (.cells #[.slice (some ⟨w.heap.size+1,0,none⟩) 3 3] 45)) 110 shp5 (3*4) rfl
   rw [World.size_alloc] at h;exact h
  ·exact ((bnw _ _).alloc (by simp) _)
end X
namespace X
theorem infoArch:(Tryzx.prog.info? 45).map (fun i=>(i.zero,i.size,i.bytes))=some (some (.agg #[.slice none 0 0]),1,24):=by kernel_rfl
theorem infoLLoadS:(Tryzx.prog.info? 46).map (fun i=>(i.zero,i.size,i.bytes))=some (some (.slice none 0 0),1,24):=by kernel_rfl
theorem infoJoint:(Tryzx.prog.info? 110).map (fun i=>(i.zero,i.size,i.bytes))=some (some (.agg #[.int .i64 0,.int .i64 0,.int .i64 0,.int .i64 0]),4,32):=by kernel_rfl
theorem infoLoad:(Tryzx.prog.info? 77).map (fun i=>(i.zero,i.size,i.bytes))=some (some (.agg #[.int .i64 0,.int .i64 0,.int .i64 0]),3,24):=by kernel_rfl
end X
namespace X
open Go.RowKit
def CpyPost (w:World) (n:Nat) (zs:List Int) (e:Ending) (w':World):Prop :=
 ∃ g c:Nat,e = .returned (.agg #[.slice (some ⟨g,0,none⟩) n c])/\w.heap.size<g/\(n<=c/\c<=maxLen)/\RowF w' g 110 (n*4) (ints zs)/\Below w.heap.size w w'
theorem l06Copy_any (b n c:Nat) (zs:List Int) (w:World) (h:RowF w b 110 (n*4) (ints zs)) (hl:zs.length=n*4) (hn1:1<=n) (hn:n<=1048576) :
  Calls Tryzx.prog 85 #[.agg #[.slice (some ⟨b,0,none⟩) n c]] w (CpyPost w n zs):=by
 have hz:((w.alloc (.cells #[.slice (some ⟨b,0,none⟩) n c] 45)).alloc (.cells #[.slice none 0 0] 45)).heap.size=w.heap.size+1+1:=by simp
 have HBA:Hid (Below w.heap.size w (((w.alloc (.cells #[.slice (some ⟨b,0,none⟩) n c] 45)).alloc (.cells #[.slice none 0 0] 45)).alloc (.cells #[] 110))):=q_ (((bnw _ _).alloc (by simp) _).alloc (by simp; omega) _)
 have HBC:Hid (Below (w.heap.size+1+1) ((w.alloc (.cells #[.slice (some ⟨b,0,none⟩) n c] 45)).alloc (.cells #[.slice none 0 0] 45)) (((w.alloc (.cells #[.slice (some ⟨b,0,none⟩) n c] 45)).alloc (.cells #[.slice none 0 0] 45)).alloc (.cells #[] 110))):=q_ ((Below.refl _ _).alloc (by rw [hz]; exact Nat.le_refl _) _);have HB2:Hid (Below w.heap.size w ((w.alloc (.cells #[.slice (some ⟨b,0,none⟩) n c] 45)).alloc (.cells #[.slice none 0 0] 45))):=q_ ((bnw _ _).alloc (by simp) _);have HO:Hid (OwnR (((w.alloc (.cells #[.slice (some ⟨b,0,none⟩) n c] 45)).alloc (.cells #[.slice none 0 0] 45)).alloc (.cells #[] 110)) (w.heap.size+1+1) 110 4 (.slice (some ⟨w.heap.size+1+1,0,none⟩) 0 0) 0 []):=q_ (by
  have h:=OwnR.new ((w.alloc (.cells #[.slice (some ⟨b,0,none⟩) n c] 45)).alloc (.cells #[.slice none 0 0] 45)) 110 4;rw [hz] at h;exact h)
 have HR0:Hid (RowF ((w.alloc (.cells #[.slice (some ⟨b,0,none⟩) n c] 45)).alloc (.cells #[.slice none 0 0] 45)) (w.heap.size+1) 45 1 (fun _ => .slice none 0 0)):=q_ (by
  have h:=rowF_new1S (w.alloc (.cells #[.slice (some ⟨b,0,none⟩) n c] 45)) (.slice none 0 0) 45;rw [World.size_alloc] at h;exact h)
 have HH:=q_ (h.after HBA.out);have hbl:=h.lt;clear h hz;go_enter Tryzx.func85,Tryz.ntmps85;go_wp2_with (at_builtin; refine wpList_appR _ rfl (.tmp 3) (.tmp 5) 43 rfl (w.heap.size+1+1) 110 4 32 #[.int .i64 0,.int .i64 0,.int .i64 0,.int .i64 0] Tryzx.underlying43 infoJoint rfl (by decide) (by decide) _ 0 [] rfl (by exact HO.out) b n c zs rfl hl (fun i hi=>by exact HH.out.cell hi) (by omega) (w.heap.size+1+1) ((w.alloc (.cells #[.slice (some ⟨b,0,none⟩) n c] 45)).alloc (.cells #[.slice none 0 0] 45)) (by exact HBC.out) (Nat.le_refl _) (by simp) _ rfl ?_ hn1; intro g' cap' w3 hown3 hb3; have HR3:=q_ (HR0.out.below hb3 (by omega)); have r0:w3.cell? ⟨w.heap.size+1,0,none⟩=some (.slice none 0 0):=HR3.out.cell (i:=0) (by omega); have f0:=HR3.out.frozen 0; have z0:=HR3.out.lt);have HB3:=q_ (HB2.out.trans (hb3.mono (by omega)));have HG:Hid (w.heap.size+1+1<=g'/\(n<=cap'/\cap'<=maxLen)/\RowF w3 g' 110 (n*4) (ints zs)):=q_ (by
  rcases hown3.form with ⟨_,h2,_⟩ | ⟨g,cap,e,h1,h2,h3⟩
  ·omega
  ·simp only [Value.slice.injEq,Option.some.injEq,Addr.mk.injEq,and_true,true_and] at e
   obtain ⟨rfl,rfl⟩:=e;refine ⟨h1,⟨by omega,?_⟩,?_⟩
   ·rcases hown3.1.2 with ⟨e,_⟩ | ⟨g1,cap1,cur1,e,_,_,_,k5,_⟩
    ·simp at e
    ·simp at e
     omega
   ·simpa using h3)
 clear hown3 hb3;go_wp2;refine bodyPost_ret (v := .agg #[.slice (some ⟨g',0,none⟩) n cap']) (by simp [results,Tryz.results85,go_sem, *]) rfl ?_;exact ⟨g',cap',rfl,by have:=HG.out.1; omega,HG.out.2.1,HG.out.2.2.set_other (by have:=HG.out.1; simp; omega) _,HB3.out.setCell (by simp) _⟩
theorem l01Once_any (g:Nat) (A:Option Addr) (n c:Nat) (zs:List Int) (m:Int) (w:World) (h:BytesAt w g A n zs) (hn:n<=1048576) (hc:CurAt w g A n c) (h0:0<m) (h1:m<=256) :
  Calls Tryzx.prog 60 #[.pointer (some ⟨g,0,none⟩),.int .i64 m] w fun e w'=>∃ b:Bool,e = .returned (.bool b)/\CurAt w' g A n c/\Only g w w':=by
 go_enter Tryzx.func60,Tryz.ntmps60;go_wp2_with fail
 refine (l01Below_any g A n c zs m _ h hn hc h0 h1).mono ?_;rintro e w1 ⟨r,rfl,hr0,hr1,hc1,ho1⟩;have HR:=q_ (show CurAt w1 g A n c/\Only g w w1 from ⟨hc1,ho1⟩);clear hc1 ho1 hc h;go_wp2;go_ret;exact ⟨_,rfl,HR.out.1,HR.out.2⟩
end X
namespace X
open Go.RowKit
def KeepB (g B:Nat) (w w':World):Prop:=∀ k,k<B->k ≠ g->w'.heap[k]?=w.heap[k]?
theorem KeepB.only {g B:Nat} {w wr w':World} (h:KeepB g B w wr) (ho:Only g wr w'):KeepB g B w w':=fun k hk hg=>(ho.block k hg).trans (h k hk hg)
theorem KeepB.belowB {g B C:Nat} {w wr w':World} (h:KeepB g B w wr) (hb:Below C wr w') (hC:B<=C):KeepB g B w w':=fun k hk hg=>(hb.block k (by omega)).trans (h k hk hg)
theorem KeepB.set {g B:Nat} {w wr:World} (h:KeepB g B w wr) {p:Addr} (hp:B<=p.block) (v:Value):KeepB g B w (wr.setCell p v):=h.belowB ((Below.refl B wr).setCell hp v) (Nat.le_refl _)
theorem KeepB.trans {g B B':Nat} {w wr w':World} (h:KeepB g B w wr) (h':KeepB g B' wr w') (hB:B<=B'):KeepB g B w w':=fun k hk hg=>(h' k (by omega) hg).trans (h k hk hg)
theorem KeepB.row {g B:Nat} {w w':World} (h:KeepB g B w w') {k M:Nat} {T:TypeId} {f:Nat->Value} (hr:RowF w k T M f) (hk:k<B) (hg:k ≠ g):RowF w' k T M f:=RowF.of_block hr (h k hk hg)
structure ArSt (w wr:World) (g:Nat) (A:Option Addr) (n c:Nat) (zs:List Int) (X b m d:Nat) (Z:List Int):Prop where
 res:RowF wr w.heap.size 45 1 (fun _ => .slice none 0 0)
 box:RowF wr X 45 1 (fun _ => .slice (some ⟨b,0,none⟩) m d)
 row:RowF wr b 110 (m*4) (ints Z)
 ok:Z.length=m*4/\archB Z m=true/\m<=d/\d<=maxLen
 far:g<w.heap.size/\w.heap.size<X/\w.heap.size<b
 cur:CurAt wr g A n c
 code:BytesAt wr g A n zs
 below:Below g w wr
 keep:KeepB g w.heap.size w wr
section
variable {w wr w' : World} {g : Nat} {A : Option Addr} {n c : Nat} {zs : List Int} {X b m d : Nat} {Z : List Int}
theorem ArSt.only (h:ArSt w wr g A n c zs X b m d Z) (ho:Only g wr w') (hc:CurAt w' g A n c):ArSt w w' g A n c zs X b m d Z :=
 ⟨h.res.only ho (by have:=h.far; omega),h.box.only ho (by have:=h.far; omega),h.row.only ho (by have:=h.far; omega),h.ok,h.far,hc,h.code.only ho (Nat.le_refl _),h.below.trans (ho.below (Nat.le_refl _)),h.keep.only ho⟩
theorem ArSt.after (h:ArSt w wr g A n c zs X b m d Z) (hb:Below wr.heap.size wr w'):ArSt w w' g A n c zs X b m d Z :=
 ⟨h.res.after hb,h.box.after hb,h.row.after hb,h.ok,h.far,h.cur.after hb,h.code.below (hb.mono (by have:=h.far; have:=h.below.size; omega)),h.below.trans (hb.mono (by have:=h.far; have:=h.below.size; omega)),h.keep.belowB hb h.below.size⟩
theorem ArSt.setOther (h:ArSt w wr g A n c zs X b m d Z) {p:Addr} (h1:w.heap.size<p.block) (h2:X ≠ p.block) (h3:b ≠ p.block) (v:Value):ArSt w (wr.setCell p v) g A n c zs X b m d Z:=by
 have hf:=h.far;refine ⟨h.res.set_other (by omega) v,h.box.set_other h2 v,h.row.set_other h3 v,h.ok,h.far,?_,h.code.below ((Below.refl _ _).setCell (by omega) v),h.below.setCell (by omega) v,h.keep.set (by omega) v⟩;obtain ⟨i,x,hi,hc⟩:=h.cur;exact ⟨i,x,hi,RowF.set_other hc (by omega) v⟩
theorem ArSt.drew (h:ArSt w wr g A n c zs X b m d Z):ArSt w wr.drew g A n c zs X b m d Z :=
 ⟨h.res,h.box,h.row,h.ok,h.far,h.cur,h.code,below_drewN h.below 1,h.keep⟩
theorem ArSt.swap {b' d':Nat} {Z':List Int} (h:ArSt w wr g A n c zs X b m d Z) (hr:RowF wr b' 110 (m*4) (ints Z')) (ho:Z'.length=m*4/\archB Z' m=true/\m<=d'/\d'<=maxLen) (hb:w.heap.size<b'/\X ≠ b'):ArSt w (wr.setCell ⟨X,0,none⟩ (.slice (some ⟨b',0,none⟩) m d')) g A n c zs X b' m d' Z':=by
 have hf:=h.far;refine ⟨h.res.set_other (by simp; omega) _,(h.box.set 0 _).congr (fun j hj=>by simp; omega),hr.set_other (by simp; omega) _,ho,⟨hf.1,hf.2.1,hb.1⟩,?_,h.code.below ((Below.refl _ _).setCell (by simp; omega) _),h.below.setCell (by simp; omega) _,h.keep.set (by simp; omega) _⟩
 obtain ⟨i,x,hi,hc⟩:=h.cur;exact ⟨i,x,hi,RowF.set_other hc (by simp; omega) _⟩
end
theorem nth_setZ (Z:List Int) (t:Nat) (x:Int) (i:Nat) (ht:t<Z.length):nth (Z.set t x) i=if i=t then x else nth Z i:=by
 by_cases hi:i<Z.length
 ·rw [nth_get _ _ (by rw [List.length_set]; exact hi),List.getElem_set]
  by_cases e:t=i
  ·subst e; simp
  ·rw [if_neg e,if_neg (fun h=>e h.symm),nth_get _ _ hi]
 ·have e:¬ i=t:=by omega
  rw [if_neg e];simp [nth,List.getD,Nat.not_lt.1 hi]
theorem rowF_put2 {w:World} {b M p:Nat} {E:TypeId} {Z:List Int} (h:RowF w b E M (ints Z)) (hl:Z.length=M) (hp:p+1<M) (x y:Int):RowF ((w.setCell ⟨b,p,none⟩ (.int .i64 x)).setCell ⟨b,p+1,none⟩ (.int .i64 y)).drew b E M (ints ((Z.set p x).set (p+1) y)):=by
 refine (((h.set p (.int .i64 x)).set (p+1) (.int .i64 y)).congr (fun j hj => ?_)).drew;simp only [ints];rw [nth_setZ _ _ _ _ (by rw [List.length_set]; omega),nth_setZ _ _ _ _ (by omega)]
 by_cases e1:j=p+1
 ·simp [e1]
 ·by_cases e2:j=p
  ·subst e2; simp
  ·simp [e1,e2]
def ArPostK (w:World) (g:Nat) (A:Option Addr) (n c:Nat) (e:Ending) (w':World):Prop :=
 ∃ (b m d:Nat) (Z:List Int),e = .returned (.agg #[.slice (some ⟨b,0,none⟩) m d])/\w.heap.size<b/\(m<=d/\d<=maxLen)/\RowF w' b 110 (m*4) (ints Z)/\Z.length=m*4/\archB Z m=true/\smZ Z 26/\CurAt w' g A n c/\KeepB g w.heap.size w w'/\Below g w w'
theorem l06Arch_keep (g:Nat) (A:Option Addr) (n c:Nat) (zs:List Int) (w:World) (h:BytesAt w g A n zs) (hn:n<=1048576) (hc:CurAt w g A n c) (hg:g<w.heap.size) :
  Calls Tryzx.prog 59 #[.pointer (some ⟨g,0,none⟩)] w (ArPostK w g A n c):=by
 have h0:BytesAt (w.alloc (.cells #[.slice none 0 0] 45)) g A n zs:=h.below ((Below.refl _ _).alloc (by omega) _);have hc0:CurAt (w.alloc (.cells #[.slice none 0 0] 45)) g A n c:=hc.after (bnw _ _);have HB0:Hid (Below g w (w.alloc (.cells #[.slice none 0 0] 45))):=q_ ((Below.refl _ _).alloc (by omega) _);have HV0:Hid (RowF (w.alloc (.cells #[.slice none 0 0] 45)) w.heap.size 45 1 (fun _ => .slice none 0 0)):=q_ (rowF_new1S _ _ _);have HS0:Hid ((w.alloc (.cells #[.slice none 0 0] 45)).heap.size=w.heap.size+1):=q_ (by simp);have HG:=q_ hg;clear h hc;go_enter Tryzx.func59,Tryz.ntmps59;go_wp2_with fail
 refine (l01Below_any g A n c zs 6 _ h0 hn hc0 (by omega) (by omega)).mono ?_;rintro e w1 ⟨x,rfl,x0,x1,hc1,ho1⟩;have HH1:=q_ (h0.only ho1 (Nat.le_refl _));have HB1:=q_ (HB0.out.trans (ho1.below (Nat.le_refl _)));have HV1:=q_ (HV0.out.only ho1 (by have:=HG.out; omega))
 have HS1:=q_ (ho1.size.trans HS0.out);have HC1:=q_ hc1;have HK0:Hid (KeepB g w.heap.size w (w.alloc (.cells #[.slice none 0 0] 45))):=q_ (fun k hk _=>((Below.refl w.heap.size w).alloc (Nat.le_refl _) _).block k hk);have HK1:=q_ (HK0.out.only ho1);clear h0 hc0 ho1 HB0 HV0 HS0 hc1;go_wp2_with fail
 refine (l06Shape_any x w1 x0 x1).mono ?_;rintro e w2 ⟨b,m,Z,rfl,hbg,hbr,hbl,hbo,hsm,hb2⟩;have HM2:=q_ hsm;clear hsm;have HA2:Hid (ArSt w (w2.alloc (.cells #[.slice (some ⟨b,0,none⟩) m m] 45)) g A n c zs w2.heap.size b m m Z):=q_ (by
  have h1:=HG.out;have h2:=HS1.out;have h3:=hb2.size;have hbb:=hb2.alloc (o := .cells #[.slice (some ⟨b,0,none⟩) m m] 45) h3;exact ⟨HV1.out.after hbb,rowF_new1S _ _ _,hbr.alloc _,⟨hbl,hbo,Nat.le_refl _,by have:=(archB_out hbo).1; unfold maxLen; omega⟩,⟨h1,by omega,by omega⟩,HC1.out.after hbb,HH1.out.below (hbb.mono (by omega)),HB1.out.trans (hbb.mono (by omega)),HK1.out.belowB hbb (by omega)⟩)
 obtain ⟨X,hX⟩:∃ X,w2.heap.size=X:=⟨_,rfl⟩;clear hbg hbr hbl hbo hb2 HH1 HB1 HV1 HS1 HC1;go_wp2_with fail
 refine (l01Below_any g A n c zs 5 _ HA2.out.code hn HA2.out.cur (by omega) (by omega)).mono ?_;rintro e w3 ⟨r,rfl,r0,r1,hc3,ho3⟩;have HA3:=q_ (HA2.out.only ho3 hc3);rw [hX] at HA3;clear hc3 ho3 HA2;obtain ⟨q,rfl⟩:=Int.eq_ofNat_of_zero_le r0;go_wp2;go_loopw [4] (fun v4 wr=>∃ (k b m d:Nat) (Z:List Int),v4 = .int .i64 k/\k<=5/\Hid (ArSt w wr g A n c zs X b m d Z)/\Hid (smZ Z (26 - (k:Int)))) (fun v4 _=>(intOf v4).toNat)
 case atStart=>exact ⟨q,b,m,m,Z,rfl,by omega,HA3,q_ (smZ_mono HM2.out (by omega))⟩
 case round =>
  clear HA3 HM2;obtain ⟨k,b,m,d,Z,rfl,hk5,HA,HM⟩:=hrel;have bx:wr.cell? ⟨X,0,none⟩=some (.slice (some ⟨b,0,none⟩) m d):=HA.out.box.cell (i:=0) (by omega);have xf:=HA.out.box.frozen 0;have hm8:=(archB_out HA.out.ok.2.1).1;by_cases he:0<k
  ·have i1:(0:Int)<(k:Int):=by omega
   go_wp2_with fail
   refine (l06Copy_any b m d Z wr HA.out.row HA.out.ok.1 (by omega) (by omega)).mono ?_;rintro e w4 ⟨g2,d2,rfl,hg2,hd2,hr2,hb4⟩;have HR4:=q_ (hr2.alloc (.cells #[.slice (some ⟨g2,0,none⟩) m d2] 45));have HY4:=q_ (rowF_new1S w4 (.slice (some ⟨g2,0,none⟩) m d2) 45);have HA4:=q_ (HA.out.after (hb4.alloc hb4.size (.cells #[.slice (some ⟨g2,0,none⟩) m d2] 45)));have HF4:Hid (w.heap.size<g2/\w.heap.size<w4.heap.size/\X ≠ w4.heap.size/\b ≠ g2/\X ≠ g2/\g2 ≠ w4.heap.size/\m<=d2/\d2<=maxLen):=q_ (by
    have h1:=HA.out.below.size;have h2:=HA.out.box.lt;have h3:=hb4.size;have h4:=HA.out.row.lt;have h5:=hr2.lt;exact ⟨by omega,by omega,by omega,by omega,by omega,by omega,hd2⟩)
   obtain ⟨Y,hY⟩:∃ Y,w4.heap.size=Y:=⟨_,rfl⟩;rw [hY] at HY4 HF4;have y0:(w4.alloc (.cells #[.slice (some ⟨g2,0,none⟩) m d2] 45)).cell? ⟨Y,0,none⟩=some (.slice (some ⟨g2,0,none⟩) m d2):=HY4.out.cell (i:=0) (by omega);clear hg2 hd2 hr2 hb4 HA bx;go_wp2_with fail
   refine (l01Below_any g A n c zs (m:Int) _ HA4.out.code hn HA4.out.cur (by omega) (by omega)).mono ?_;rintro e w5 ⟨i,rfl,z0,z1,hc5,ho5⟩;have HA5:=q_ (HA4.out.only ho5 hc5);have HY5:=q_ (HY4.out.only ho5 (by have:=HA4.out.below.size; have:=HF4.out; omega))
   have HR5:=q_ (HR4.out.only ho5 (by have:=HF4.out; omega))
   clear hc5 ho5 HA4 HY4 HR4 y0;obtain ⟨i,rfl⟩:=Int.eq_ofNat_of_zero_le z0;go_wp2_with fail
   refine (l01Below_any g A n c zs 3 _ HA5.out.code hn HA5.out.cur (by omega) (by omega)).mono ?_;rintro e w6 ⟨dx,rfl,dx0,dx1,hc6,ho6⟩;have HA6:=q_ (HA5.out.only ho6 hc6);have HY6:=q_ (HY5.out.only ho6 (by have:=HF4.out; omega))
   have HR6:=q_ (HR5.out.only ho6 (by have:=HF4.out; omega))
   clear hc6 ho6 HA5 HY5 HR5;go_wp2_with fail
   refine (l01Below_any g A n c zs 3 _ HA6.out.code hn HA6.out.cur (by omega) (by omega)).mono ?_;rintro e w7 ⟨dy,rfl,dy0,dy1,hc7,ho7⟩;have HA7:=q_ (HA6.out.only ho7 hc7);have HY7:=q_ (HY6.out.only ho7 (by have:=HF4.out; omega))
   have HR7:=q_ (HR6.out.only ho7 (by have:=HF4.out; omega))
   clear hc7 ho7 HA6 HY6 HR6;go_wp2_with fail
   refine (l01Once_any g A n c zs 2 _ HA7.out.code hn HA7.out.cur (by omega) (by omega)).mono ?_;rintro e w8 ⟨bb,rfl,hc8,ho8⟩;have HA8:=q_ (HA7.out.only ho8 hc8);have HY8:=q_ (HY7.out.only ho8 (by have:=HF4.out; omega))
   have HR8:=q_ (HR7.out.only ho8 (by have:=HF4.out; omega))
   clear hc8 ho8 HA7 HY7 HR7;have y0:w8.cell? ⟨Y,0,none⟩=some (.slice (some ⟨g2,0,none⟩) m d2):=HY8.out.cell (i:=0) (by omega);have c0:w8.cell? ⟨g2,i*4,none⟩=some (.int .i64 (nth Z (i*4))):=HR8.out.cell (by omega);have c1:w8.cell? ⟨g2,i*4+1,none⟩=some (.int .i64 (nth Z (i*4+1))):=HR8.out.cell (by omega);have c2:w8.cell? ⟨g2,i*4+2,none⟩=some (.int .i64 (nth Z (i*4+2))):=HR8.out.cell (by omega);have c3:w8.cell? ⟨g2,i*4+3,none⟩=some (.int .i64 (nth Z (i*4+3))):=HR8.out.cell (by omega);have f0:=HR8.out.frozen (i*4);have f1:=HR8.out.frozen (i*4+1);have f2:=HR8.out.frozen (i*4+2);have f3:=HR8.out.frozen (i*4+3);have zl:=HR8.out.lt;have i2:(i:Int)<(m:Int):=by omega
   have i3:(0:Int)<=(i:Int):=by omega
   cases bb
   ·have HL9:Hid (((Z.set (i*4+2) (wrap64 (nth Z (i*4+2)+(dx - 1)))).set (i*4+2+1) (wrap64 (nth Z (i*4+3)+(dy - 1)))).length=m*4):=q_ (by simp [HA8.out.ok.1])
    have HM9:Hid (smZ ((Z.set (i*4+2) (wrap64 (nth Z (i*4+2)+(dx - 1)))).set (i*4+2+1) (wrap64 (nth Z (i*4+3)+(dy - 1)))) (26 - ((k - 1:Nat):Int))):=q_ (smZ_mono (smZ_put HM.out (by omega) rfl rfl ⟨dx0,dx1⟩ ⟨dy0,dy1⟩) (by omega));have HR9:Hid (RowF (((w8.setCell ⟨g2,i*4+2,none⟩ (.int .i64 (wrap64 (nth Z (i*4+2)+(dx - 1))))).setCell ⟨g2,i*4+2+1,none⟩ (.int .i64 (wrap64 (nth Z (i*4+3)+(dy - 1))))).drew) g2 110 (m*4) (ints ((Z.set (i*4+2) (wrap64 (nth Z (i*4+2)+(dx - 1)))).set (i*4+2+1) (wrap64 (nth Z (i*4+3)+(dy - 1)))))):=q_ (rowF_put2 HR8.out HA8.out.ok.1 (by omega) _ _);have HA9:Hid (ArSt w (((w8.setCell ⟨g2,i*4+2,none⟩ (.int .i64 (wrap64 (nth Z (i*4+2)+(dx - 1))))).setCell ⟨g2,i*4+2+1,none⟩ (.int .i64 (wrap64 (nth Z (i*4+3)+(dy - 1))))).drew) g A n c zs X b m d Z):=q_ ((((HA8.out.setOther (by exact HF4.out.1) (by exact HF4.out.2.2.2.2.1) (by exact HF4.out.2.2.2.1) _).setOther (by exact HF4.out.1) (by exact HF4.out.2.2.2.2.1) (by exact HF4.out.2.2.2.1) _)).drew);have HY9:Hid (RowF (((w8.setCell ⟨g2,i*4+2,none⟩ (.int .i64 (wrap64 (nth Z (i*4+2)+(dx - 1))))).setCell ⟨g2,i*4+2+1,none⟩ (.int .i64 (wrap64 (nth Z (i*4+3)+(dy - 1))))).drew) Y 45 1 (fun _ => .slice (some ⟨g2,0,none⟩) m d2)):=q_ ((((HY8.out.set_other (by have:=HF4.out; simp; omega) _).set_other (by have:=HF4.out; simp; omega) _)).drew)
    go_wp2_with fail
    go_region
    clear y0 c0 c1 c2 c3 f0 f1 f2 f3 HR8 HA8 HY8;obtain ⟨W9,hW9⟩:∃ W9:World,((w8.setCell ⟨g2,i*4+2,none⟩ (.int .i64 (wrap64 (nth Z (i*4+2)+(dx - 1))))).setCell ⟨g2,i*4+2+1,none⟩ (.int .i64 (wrap64 (nth Z (i*4+3)+(dy - 1))))).drew=W9:=⟨_,rfl⟩;obtain ⟨Z9,hZ9⟩:∃ Z9:List Int,((Z.set (i*4+2) (wrap64 (nth Z (i*4+2)+(dx - 1)))).set (i*4+2+1) (wrap64 (nth Z (i*4+3)+(dy - 1))))=Z9:=⟨_,rfl⟩;rw [hW9] at HR9 HA9 HY9;rw [hZ9] at HR9 HL9 HM9;have y9:W9.cell? ⟨Y,0,none⟩=some (.slice (some ⟨g2,0,none⟩) m d2):=HY9.out.cell (i:=0) (by omega);go_wp2_with fail
    refine (sArchOk_any _ m _ Z9 W9 (HR9.out.recs HL9.out) (by omega)).mono ?_;rintro e w10 ⟨rfl,hb10⟩;have HA10:=q_ (HA9.out.after hb10);have HR10:=q_ (HR9.out.after hb10);have HY10:=q_ (HY9.out.after hb10);have hk1:IntKind.i64.wrap ((k:Int) - 1)=((k - 1:Nat):Int):=by rw [iW (by omega)]; omega
    clear hb10 y9 HA9 HR9 HY9 hW9 hZ9;cases hB:archB Z9 m
    ·go_wp2
     go_roundw
     case rel=>exact ⟨k - 1,b,m,d,Z,by go_num,by omega,HA10,q_ (smZ_mono HM.out (by omega))⟩
     case measure=>simp [intOf]; omega
    ·have y10:w10.cell? ⟨Y,0,none⟩=some (.slice (some ⟨g2,0,none⟩) m d2):=HY10.out.cell (i:=0) (by omega)
     have x10:w10.cell? ⟨X,0,none⟩=some (.slice (some ⟨b,0,none⟩) m d):=HA10.out.box.cell (i:=0) (by omega);have xf10:=HA10.out.box.frozen 0;have HS10:=q_ (HA10.out.swap (d':=d2) HR10.out ⟨HL9.out,hB,HF4.out.2.2.2.2.2.2⟩ ⟨HF4.out.1,HF4.out.2.2.2.2.1⟩);go_wp2;go_roundw
     case rel=>exact ⟨k - 1,g2,m,d2,Z9,by go_num,by omega,HS10,HM9⟩
     case measure=>simp [intOf]; omega
   ·have HL9:Hid (((Z.set (i*4) (wrap64 (nth Z (i*4)+(dx - 1)))).set (i*4+1) (wrap64 (nth Z (i*4+1)+(dy - 1)))).length=m*4):=q_ (by simp [HA8.out.ok.1])
    have HM9:Hid (smZ ((Z.set (i*4) (wrap64 (nth Z (i*4)+(dx - 1)))).set (i*4+1) (wrap64 (nth Z (i*4+1)+(dy - 1)))) (26 - ((k - 1:Nat):Int))):=q_ (smZ_mono (smZ_put HM.out (by omega) rfl rfl ⟨dx0,dx1⟩ ⟨dy0,dy1⟩) (by omega));have HR9:Hid (RowF (((w8.setCell ⟨g2,i*4,none⟩ (.int .i64 (wrap64 (nth Z (i*4)+(dx - 1))))).setCell ⟨g2,i*4+1,none⟩ (.int .i64 (wrap64 (nth Z (i*4+1)+(dy - 1))))).drew) g2 110 (m*4) (ints ((Z.set (i*4) (wrap64 (nth Z (i*4)+(dx - 1)))).set (i*4+1) (wrap64 (nth Z (i*4+1)+(dy - 1)))))):=q_ (rowF_put2 HR8.out HA8.out.ok.1 (by omega) _ _);have HA9:Hid (ArSt w (((w8.setCell ⟨g2,i*4,none⟩ (.int .i64 (wrap64 (nth Z (i*4)+(dx - 1))))).setCell ⟨g2,i*4+1,none⟩ (.int .i64 (wrap64 (nth Z (i*4+1)+(dy - 1))))).drew) g A n c zs X b m d Z):=q_ ((((HA8.out.setOther (by exact HF4.out.1) (by exact HF4.out.2.2.2.2.1) (by exact HF4.out.2.2.2.1) _).setOther (by exact HF4.out.1) (by exact HF4.out.2.2.2.2.1) (by exact HF4.out.2.2.2.1) _)).drew);have HY9:Hid (RowF (((w8.setCell ⟨g2,i*4,none⟩ (.int .i64 (wrap64 (nth Z (i*4)+(dx - 1))))).setCell ⟨g2,i*4+1,none⟩ (.int .i64 (wrap64 (nth Z (i*4+1)+(dy - 1))))).drew) Y 45 1 (fun _ => .slice (some ⟨g2,0,none⟩) m d2)):=q_ ((((HY8.out.set_other (by have:=HF4.out; simp; omega) _).set_other (by have:=HF4.out; simp; omega) _)).drew)
    go_wp2_with fail
    go_region
    clear y0 c0 c1 c2 c3 f0 f1 f2 f3 HR8 HA8 HY8;obtain ⟨W9,hW9⟩:∃ W9:World,((w8.setCell ⟨g2,i*4,none⟩ (.int .i64 (wrap64 (nth Z (i*4)+(dx - 1))))).setCell ⟨g2,i*4+1,none⟩ (.int .i64 (wrap64 (nth Z (i*4+1)+(dy - 1))))).drew=W9:=⟨_,rfl⟩;obtain ⟨Z9,hZ9⟩:∃ Z9:List Int,((Z.set (i*4) (wrap64 (nth Z (i*4)+(dx - 1)))).set (i*4+1) (wrap64 (nth Z (i*4+1)+(dy - 1))))=Z9:=⟨_,rfl⟩;rw [hW9] at HR9 HA9 HY9;rw [hZ9] at HR9 HL9 HM9;have y9:W9.cell? ⟨Y,0,none⟩=some (.slice (some ⟨g2,0,none⟩) m d2):=HY9.out.cell (i:=0) (by omega);go_wp2_with fail
    refine (sArchOk_any _ m _ Z9 W9 (HR9.out.recs HL9.out) (by omega)).mono ?_;rintro e w10 ⟨rfl,hb10⟩;have HA10:=q_ (HA9.out.after hb10);have HR10:=q_ (HR9.out.after hb10);have HY10:=q_ (HY9.out.after hb10);have hk1:IntKind.i64.wrap ((k:Int) - 1)=((k - 1:Nat):Int):=by rw [iW (by omega)]; omega
    clear hb10 y9 HA9 HR9 HY9 hW9 hZ9;cases hB:archB Z9 m
    ·go_wp2
     go_roundw
     case rel=>exact ⟨k - 1,b,m,d,Z,by go_num,by omega,HA10,q_ (smZ_mono HM.out (by omega))⟩
     case measure=>simp [intOf]; omega
    ·have y10:w10.cell? ⟨Y,0,none⟩=some (.slice (some ⟨g2,0,none⟩) m d2):=HY10.out.cell (i:=0) (by omega)
     have x10:w10.cell? ⟨X,0,none⟩=some (.slice (some ⟨b,0,none⟩) m d):=HA10.out.box.cell (i:=0) (by omega);have xf10:=HA10.out.box.frozen 0;have HS10:=q_ (HA10.out.swap (d':=d2) HR10.out ⟨HL9.out,hB,HF4.out.2.2.2.2.2.2⟩ ⟨HF4.out.1,HF4.out.2.2.2.2.1⟩);go_wp2;go_roundw
     case rel=>exact ⟨k - 1,g2,m,d2,Z9,by go_num,by omega,HS10,HM9⟩
     case measure=>simp [intOf]; omega
  ·obtain rfl:k=0:=by omega
   have i1:¬ (0:Int)<((0:Nat):Int):=by omega
   have r0:wr.cell? ⟨w.heap.size,0,none⟩=some (.slice none 0 0):=HA.out.res.cell (i:=0) (by omega);have rf:=HA.out.res.frozen 0;have rl:=HA.out.res.lt;go_wp2;refine bodyPost_ret (v := .agg #[.slice (some ⟨b,0,none⟩) m d]) (by simp [results,Tryz.results59,go_sem, *]) rfl ?_;have hf:=HA.out.far;refine ⟨b,m,d,Z,rfl,hf.2.2,HA.out.ok.2.2,HA.out.row.set_other (by simp; omega) _,HA.out.ok.1,HA.out.ok.2.1,smZ_mono HM.out (by omega),?_,HA.out.keep.set (by simp) _,HA.out.below.setCell (by simp; omega) _⟩
   obtain ⟨i,x,hi,hc⟩:=HA.out.cur;exact ⟨i,x,hi,RowF.set_other hc (by simp; omega) _⟩
end X
section
open Go.RowKit
theorem OwnR.weaken {w:World} {base base':Nat} {E:TypeId} {K n:Nat} {v:Value} {xs:List Int} (h:OwnR w base E K v n xs) (hb:base'<=base):OwnR w base' E K v n xs:=by
 refine ⟨⟨h.1.1,?_⟩,h.2⟩;rcases h.1.2 with h2 | ⟨g,cap,cur,h1,h2,h3⟩
 ·exact .inl h2
 ·exact .inr ⟨g,cap,cur,h1,Nat.le_trans hb h2,h3⟩
theorem OwnR.set2 {w:World} {base:Nat} {E:TypeId} {K n:Nat} {v:Value} {xs:List Int} (h:OwnR w base E K v n xs) (p q:Addr) (x y:Value) (hp:p.block<base) (hq:q.block<base):OwnR ((w.setCell p x).setCell q y) base E K v n xs:=by
 refine ⟨⟨h.1.1,?_⟩,h.2⟩;rcases h.1.2 with h2 | ⟨g,cap,cur,h1,h2,h3,hr⟩
 ·exact .inl h2
 ·refine .inr ⟨g,cap,cur,h1,h2,?_,hr⟩
  rw [Below.heap_setCell _ q y g (by omega),Below.heap_setCell _ p x g (by omega)];exact h3
theorem OwnR.ints {w:World} {base:Nat} {E:TypeId} {A:Option Addr} {n c:Nat} {xs:List Int} (h:OwnR w base E 1 (.slice A n c) n xs):IntsAt w w.heap.size A n xs:=by
 have hr:=h.recs;refine ⟨by rw [hr.1,Nat.mul_one],fun hn => ?_⟩;obtain ⟨b,off,e,hb,hc⟩:=hr.2 hn;exact ⟨b,off,e,hb,fun k hk=>hc k (by omega)⟩
theorem OwnR.rowInts {w:World} {base:Nat} {E:TypeId} {A:Option Addr} {n c:Nat} {xs:List Int} (h:OwnR w base E 1 (.slice A n c) n xs) (hn:0<n):∃ g,A=some ⟨g,0,none⟩/\base<=g/\RowF w g E n (Go.Proofs.YtjcgklifabcfkaaGreat.ints xs):=by
 rcases h.form with ⟨_,h2,_⟩ | ⟨g,cap,e,h2,_,hr⟩
 ·omega
 ·simp at e
  rw [Nat.mul_one] at hr;exact ⟨g,e.1,h2,hr⟩
end
namespace X
open Go.RowKit
theorem ownR_onlyB {w w':World} {g base:Nat} {E:TypeId} {K n:Nat} {v:Value} {xs:List Int} (h:OwnR w base E K v n xs) (ho:Only g w w') (hg:g<base):OwnR w' base E K v n xs:=by
 refine ⟨⟨h.1.1,?_⟩,h.2⟩;rcases h.1.2 with h2 | ⟨g',cap,cur,h1,h2,h3,hr⟩
 ·exact .inl h2
 ·exact .inr ⟨g',cap,cur,h1,h2,(ho.block g' (by omega)).trans h3,hr⟩
def PickPost (w:World) (g:Nat) (A:Option Addr) (n c:Nat) (L:List Int) (e:Ending) (w':World):Prop :=
 ∃ i:Nat,e = .returned (.int .i64 (nth L i))/\CurAt w' g A n c/\Only g w w'
theorem l01PickInt_any (g:Nat) (A:Option Addr) (n c:Nat) (zs:List Int) (p m d:Nat) (L:List Int) (w:World) (h:BytesAt w g A n zs) (hn:n<=1048576) (hc:CurAt w g A n c) (hp:p ≠ g) (hr:RowF w p 3 m (ints L)) (h0:0<m) (h1:m<=256) :
  Calls Tryzx.prog 86 #[.pointer (some ⟨g,0,none⟩),.slice (some ⟨p,0,none⟩) m d] w (PickPost w g A n c L):=by
 have HR:=q_ hr;have HP:=q_ hp;clear hr hp;go_enter Tryzx.func86,Tryz.ntmps86;go_wp2_with fail
 refine (l01Below_any g A n c zs (m:Int) _ h hn hc (by omega) (by omega)).mono ?_;rintro e w1 ⟨x,rfl,x0,x1,hc1,ho1⟩;obtain ⟨i,rfl⟩:=Int.eq_ofNat_of_zero_le x0;have y0:w1.cell? ⟨p,i,none⟩=some (.int .i64 (nth L i)):=(HR.out.only ho1 HP.out).cell (i:=i) (by omega);have HC:=q_ hc1;have HO:=q_ ho1;clear hc1 ho1 h hc;go_wp2;go_ret;exact ⟨_,rfl,HC.out,HO.out⟩
structure LdSt (w wr:World) (g:Nat) (A:Option Addr) (n c:Nat) (zs:List Int) (b m d:Nat) (Z:List Int) (v:Value) (k:Nat) (L:List Int):Prop where
 box:RowF wr w.heap.size 45 1 (fun _ => .slice (some ⟨b,0,none⟩) m d)
 row:RowF wr b 110 (m*4) (ints Z)
 own:OwnR wr (w.heap.size+1) 77 3 v k L
 far:g<b/\b<w.heap.size
 cur:CurAt wr g A n c
 code:BytesAt wr g A n zs
 below:Below g w wr
 keep:KeepB g w.heap.size w wr
section
variable {w wr w' : World} {g : Nat} {A : Option Addr} {n c : Nat} {zs : List Int} {b m d : Nat} {Z : List Int} {v : Value} {k : Nat} {L : List Int}
theorem LdSt.only (h:LdSt w wr g A n c zs b m d Z v k L) (ho:Only g wr w') (hc:CurAt w' g A n c):LdSt w w' g A n c zs b m d Z v k L :=
 ⟨h.box.only ho (by have:=h.far; omega),h.row.only ho (by have:=h.far; omega),ownR_onlyB h.own ho (by have:=h.far; omega),h.far,hc,h.code.only ho (Nat.le_refl _),h.below.trans (ho.below (Nat.le_refl _)),h.keep.only ho⟩
theorem LdSt.after (h:LdSt w wr g A n c zs b m d Z v k L) (hb:Below wr.heap.size wr w'):LdSt w w' g A n c zs b m d Z v k L :=
 ⟨h.box.after hb,h.row.after hb,h.own.below hb,h.far,h.cur.after hb,h.code.below (hb.mono (by have:=h.far; have:=h.below.size; omega)),h.below.trans (hb.mono (by have:=h.far; have:=h.below.size; omega)),h.keep.belowB hb h.below.size⟩
theorem LdSt.drew (h:LdSt w wr g A n c zs b m d Z v k L):LdSt w wr.drew g A n c zs b m d Z v k L :=
 ⟨h.box,h.row,h.own,h.far,h.cur,h.code,below_drewN h.below 1,h.keep⟩
theorem LdSt.grow {v':Value} {k':Nat} {L':List Int} (h:LdSt w wr g A n c zs b m d Z v k L) (hb:Below (w.heap.size+1) wr w') (ho:OwnR w' (w.heap.size+1) 77 3 v' k' L'):LdSt w w' g A n c zs b m d Z v' k' L':=by
 have hf:=h.far;refine ⟨RowF.below h.box hb (by omega),RowF.below h.row hb (by omega),ho,h.far,?_,h.code.below (hb.mono (by omega)),h.below.trans (hb.mono (by omega)),h.keep.belowB hb (by omega)⟩;obtain ⟨i,x,hi,hcc⟩:=h.cur;exact ⟨i,x,hi,RowF.below hcc hb (by omega)⟩
end
def LdPost (w:World) (g:Nat) (A:Option Addr) (n c:Nat) (b m:Nat) (Z:List Int) (e:Ending) (w':World):Prop :=
 ∃ (gl k cl:Nat) (L:List Int),e = .returned (.slice (some ⟨gl,0,none⟩) k cl)/\k<=4/\OwnR w' w.heap.size 77 3 (.slice (some ⟨gl,0,none⟩) k cl) k L/\allTo (loadAt L m) k/\RowF w' b 110 (m*4) (ints Z)/\CurAt w' g A n c/\KeepB g w.heap.size w w'/\Below g w w'
theorem rowF_new3L (w:World) (a b c:Int) (T:TypeId):RowF (w.alloc (.cells #[.int .i64 a,.int .i64 b,.int .i64 c] T)) w.heap.size T 3 (ints [a,b,c]) :=
 RowF.of_row (World.rowIs_alloc w #[.int .i64 a,.int .i64 b,.int .i64 c] T _ (fun j hj=>by simp at hj; match j,hj with | 0,_=>rfl | 1,_=>rfl | 2,_=>rfl))
theorem l07Loads_any (g:Nat) (A:Option Addr) (n c:Nat) (zs:List Int) (b m d:Nat) (Z:List Int) (w:World) (h:BytesAt w g A n zs) (hn:n<=1048576) (hc:CurAt w g A n c) (hg:g<b) (hb:b<w.heap.size) (hr:RowF w b 110 (m*4) (ints Z)) (hm:m<=8) (hsm:smZ Z 26) :
  Calls Tryzx.prog 62 #[.pointer (some ⟨g,0,none⟩),.agg #[.slice (some ⟨b,0,none⟩) m d]] w (LdPost w g A n c b m Z):=by
 have HL0:Hid (LdSt w ((w.alloc (.cells #[.slice (some ⟨b,0,none⟩) m d] 45)).alloc (.cells #[] 77)) g A n c zs b m d Z (.slice (some ⟨w.heap.size+1,0,none⟩) 0 0) 0 []):=q_ (by
  have b1:Below w.heap.size w (w.alloc (.cells #[.slice (some ⟨b,0,none⟩) m d] 45)):=bnw _ _;have b2:=b1.alloc (o := .cells #[] 77) b1.size;have ho:=OwnR.new (w.alloc (.cells #[.slice (some ⟨b,0,none⟩) m d] 45)) 77 3;rw [World.size_alloc] at ho;exact ⟨(rowF_new1S w _ _).alloc _,hr.after b2,ho,⟨hg,hb⟩,hc.after b2,h.below (b2.mono (by omega)),b2.mono (by omega),fun k hk _=>b2.block k hk⟩)
 have HSM:=q_ hsm;clear h hc hr hsm;go_enter Tryzx.func62,Tryz.ntmps62;go_wp2_with fail
 refine (l01Below_any g A n c zs 4 _ HL0.out.code hn HL0.out.cur (by omega) (by omega)).mono ?_;rintro e w1 ⟨x,rfl,x0,x1,hc1,ho1⟩;have HL1:=q_ (HL0.out.only ho1 hc1);obtain ⟨q,rfl⟩:=Int.eq_ofNat_of_zero_le x0;clear hc1 ho1 HL0 x0;go_wp2;go_loopw [5,7] (fun v5 v7 wr=>∃ (k:Nat) (L:List Int) (g5:Nat) (c5:Nat),v5 = .slice (some ⟨g5,0,none⟩) k c5/\v7 = .int .i64 k/\k<=q/\Hid (LdSt w wr g A n c zs b m d Z (.slice (some ⟨g5,0,none⟩) k c5) k L)/\Hid (allTo (loadAt L m) k)) (fun _ v7 _=>q - (intOf v7).toNat)
 case atStart=>exact ⟨0,[],_,_,rfl,rfl,Nat.zero_le _,HL1,q_ (fun i hi=>absurd hi (by omega))⟩
 case round =>
  clear HL1;obtain ⟨k,L,g5,c5,rfl,rfl,hk,HL,HV⟩:=hrel;have bx:wr.cell? ⟨w.heap.size,0,none⟩=some (.slice (some ⟨b,0,none⟩) m d):=HL.out.box.cell (i:=0) (by omega);by_cases hlt:k<q
  ·have kq:(k:Int)<(q:Int):=by omega
   by_cases hm1:1<m
   ·have m1:(1:Int)<(m:Int):=by omega
    have e1:IntKind.i64.wrap ((m:Int) - 1)=(m:Int) - 1:=iW (by omega);have e2:IntKind.i64.wrap ((k:Int)+1)=(k:Int)+1:=iW (by omega);go_wp2_with fail
    refine (l01Below_any g A n c zs ((m:Int) - 1) _ HL.out.code hn HL.out.cur (by omega) (by omega)).mono ?_;rintro e w2 ⟨x,rfl,y0,y1,hc2,ho2⟩;have HL2:=q_ (HL.out.only ho2 hc2);obtain ⟨i,rfl⟩:=Int.eq_ofNat_of_zero_le y0;have hi:i<m:=by omega
    have HI2:Hid ((0:Int)<=(i:Int)/\(i:Int)<=(m:Int) - 2):=q_ ⟨y0,by omega⟩;clear hc2 ho2 HL bx y0 y1;have HLA:=q_ (HL2.out.after ((Below.refl _ _).alloc (Nat.le_refl _) (.cells #[.int .i64 0,.int .i64 6,.int .i64 20,.int .i64 60,.int .i64 200] 3)));have HRA:Hid (RowF (w2.alloc (.cells #[.int .i64 0,.int .i64 6,.int .i64 20,.int .i64 60,.int .i64 200] 3)) w2.heap.size 3 5 (ints [0,6,20,60,200])):=q_ (rowF_lit w2 3 [0,6,20,60,200] 5 rfl);have hgl:w2.heap.size ≠ g:=by have:=HL2.out.far; have:=HL2.out.below.size; omega
    go_wp2_with fail
    refine (l01PickInt_any g A n c zs _ 5 _ _ _ HLA.out.code hn HLA.out.cur hgl HRA.out (by omega) (by omega)).mono ?_;rintro e w3 ⟨iu,rfl,hc3,ho3⟩;have HU:=q_ (pick_wt (i:=iu));obtain ⟨u,hu⟩:∃ u,nth [0,6,20,60,200] iu=u:=⟨_,rfl⟩;rw [hu] at HU ⊢;clear hu;have HL3:=q_ (HLA.out.only ho3 hc3);clear hc3 ho3 HL2 HLA HRA hgl;have bx:w3.cell? ⟨w.heap.size,0,none⟩=some (.slice (some ⟨b,0,none⟩) m d):=HL3.out.box.cell (i:=0) (by omega);have jx:w3.cell? ⟨b,i*4+2,none⟩=some (.int .i64 (nth Z (i*4+2))):=HL3.out.row.cell (i:=i*4+2) (by omega);have im:(i:Int)<(m:Int):=by omega
    have i0:(0:Int)<=(i:Int):=by omega
    have HJ:=q_ (HSM.out (i*4+2));generalize nth Z (i*4+2)=jz at *
    go_wp2;refine wp_region_held_drew (S:=fun w'=>w'.cell? ⟨w.heap.size,0,none⟩=some (.slice (some ⟨b,0,none⟩) m d)/\w'.cell? ⟨b,i*4+2,none⟩=some (.int .i64 jz)) (by kernel_rfl) (by exact ⟨bx,jx⟩) (fun hHeld => ?_);refine tk 0 33 rfl rfl ?_;try simp only [Act.put,ly3]
    refine tk 1 34 rfl rfl ?_;try simp only [Act.put,ly3]
    refine tk 2 35 rfl rfl ?_;try simp only [Act.put,ly3]
    refine tk 3 36 rfl rfl ?_;try simp only [Act.put,ly3]
    refine tk 4 37 rfl rfl ?_;try simp only [Act.put,ly3]
    refine tk 5 38 rfl rfl ?_;try simp only [Act.put,ly3]
    refine tk 6 39 rfl rfl ?_;try simp only [Act.put,ly3]
    refine tk 7 40 rfl rfl ?_;try simp only [Act.put,ly3]
    refine tk 8 41 rfl rfl ?_;try simp only [Act.put,ly3]
    refine tk 9 42 rfl rfl ?_;try simp only [Act.put,ly3]
    refine tk 10 43 rfl rfl ?_;try simp only [Act.put,ly3]
    refine rd1 11 rfl fun K hK=>?_;go_simp
    refine (l01Below_any g A n c zs 4 _ HL3.out.drew.code hn HL3.out.drew.cur (by omega) (by omega)).mono ?_; rintro e w4 ⟨y,rfl,hy4,hz4,hc4,ho4⟩; have HW4:Hid (IntKind.i64.wrap (jz+y)=jz+y):=q_ (IntWalk.i64_in _ (by have:=HJ.out; omega)); have HY4:Hid (-60<=jz+y/\jz+y<=60):=q_ (by have:=HJ.out; omega); clear hy4 hz4; have HL4:=q_ (HL3.out.drew.only ho4 hc4);refine hK.out _ _ (by exact ⟨HL4.out.box.cell (i:=0) (by omega),(ho4.cell (p:=⟨b,i*4+2,none⟩) (by simp; have:=HL4.out.far; omega)).trans jx⟩) (fun hHeld => ?_)
    clear hK K;try simp only [Act.put,ly3]
    refine tk 12 45 rfl rfl ?_;try simp only [Act.put,ly3]
    refine tk 13 46 rfl rfl ?_;try simp only [Act.put,ly3]
    refine rd1 14 rfl fun K hK=>?_;go_simp
    skip
    refine hK.out _ _ (by exact ⟨(HL4.out.box.alloc _).cell (i:=0) (by omega),(cell_alloc_lt (RowF.lt HL4.out.row)).trans ((ho4.cell (p:=⟨b,i*4+2,none⟩) (by simp; have:=HL4.out.far; omega)).trans jx)⟩) (fun hHeld => ?_)
    clear hK K;try simp only [Act.put,ly3]
    refine rd1 15 rfl fun K hK=>?_;refine step_appR rfl (.tmp 33) (.tmp 47) 46 rfl (w.heap.size+1) 77 3 24 #[.int .i64 0,.int .i64 0,.int .i64 0] Tryzx.underlying46 infoLoad rfl (by decide) (by decide) _ k L rfl (by exact HL4.out.own.alloc _) w4.heap.size 1 1 [(i:Int),u,IntKind.i64.wrap (jz+y)] rfl rfl (by exact fun j hj=>(rowF_new3L w4 _ _ _ _).cell hj) (by omega) (w.heap.size+1) w4 (by exact (Below.refl _ _).alloc (by have:=HL4.out.below.size; have:=RowF.lt HL4.out.box; omega) _) (Nat.le_refl _) (by have:=RowF.lt HL4.out.box; simp; omega) _ rfl (by omega) ?_; intro g' cap' w5 hown5 hb5; have HL5:=q_ (HL4.out.grow hb5 hown5); have HV5:Hid (allTo (loadAt (L ++ [(i:Int),u,IntKind.i64.wrap (jz+y)]) m) (k+1)):=q_ (loads_push HL4.out.own.2 HV.out HI2.out HU.out (by rw [HW4.out]; exact HY4.out));refine hK.out _ _ (by exact ⟨HL5.out.box.cell (i:=0) (by omega),(hb5.cell (p:=⟨b,i*4+2,none⟩) (by simp; have:=HL4.out.far; omega)).trans ((ho4.cell (p:=⟨b,i*4+2,none⟩) (by simp; have:=HL4.out.far; omega)).trans jx)⟩) (fun hHeld => ?_)
    clear hK K;try simp only [Act.put,ly3]
    refine tk 16 5 rfl rfl ?_;try simp only [Act.put,ly3]
    refine wpAnyH_done (by kernel_rfl) ?_ _;clear hc4 ho4 hown5 hb5 bx jx HL3 HL4;go_wp2;go_roundw
    case rel=>exact ⟨k+1,_,_,cap',rfl,by go_num,by omega,HL5,HV5⟩
    case measure=>simp [intOf]; omega
   ·have m1:¬ (1:Int)<(m:Int):=by omega
    go_wp2;go_ret;exact ⟨g5,k,c5,L,rfl,by omega,HL.out.own.weaken (by omega),HV.out,HL.out.row,HL.out.cur,HL.out.keep,HL.out.below⟩
  ·have kq:¬ (k:Int)<(q:Int):=by omega
   go_wp2;go_ret;exact ⟨g5,k,c5,L,rfl,by omega,HL.out.own.weaken (by omega),HV.out,HL.out.row,HL.out.cur,HL.out.keep,HL.out.below⟩
end X
section
open Go.RowKit
def pairV (u v:Value) (j:Nat):Value:=if j=0 then u else v
theorem row_pair (w:World) (u v:Value) (t:TypeId):(w.alloc (.cells #[u,v] t)).rowIs w.heap.size t 2 (pairV u v):=World.rowIs_alloc w #[u,v] t (pairV u v) (fun i hi=>by simp at hi; match i,hi with | 0,_=>rfl | 1,_=>rfl)
end
section
open Go.RowKit
def filled (w:World) (g:Nat) (E:TypeId) (K:Nat) (f:Nat->Value) (L:List (Nat × List Int)) (i:Nat):Prop :=
 ∃ gi,f i = .slice (some ⟨gi,0,none⟩) (rowN L i) (rowN L i)/\g<gi/\w.rowIs gi E (rowN L i*K) (ints (rowZ L i))
def NestRow (w:World) (g:Nat) (T E:TypeId) (K n:Nat) (L:List (Nat × List Int)):Prop:=∃ f,w.rowIs g T n f/\∀ i,i<n->filled w g E K f L i
def NestTo (w:World) (g:Nat) (T E:TypeId) (K n:Nat) (L:List (Nat × List Int)) (k:Nat):Prop:=∃ f,w.rowIs g T n f/\(∀ i,i<k->filled w g E K f L i)/\∀ i,k<=i->f i = .slice none 0 0
section
variable {w w' : World} {g : Nat} {T E : TypeId} {K n k : Nat} {L : List (Nat × List Int)} {f f' : Nat -> Value} {i : Nat}
theorem filled.after (h:filled w g E K f L i) (hb:Below w.heap.size w w'):filled w' g E K f L i:=by
 obtain ⟨gi,h1,h2,h3⟩:=h;exact ⟨gi,h1,h2,h3.of_block (hb.block gi h3.lt)⟩
theorem NestTo.after (h:NestTo w g T E K n L k) (hb:Below w.heap.size w w'):NestTo w' g T E K n L k:=by
 obtain ⟨f,h1,h2,h3⟩:=h;exact ⟨f,h1.of_block (hb.block g h1.lt),fun i hi=>(h2 i hi).after hb,h3⟩
theorem NestRow.after (h:NestRow w g T E K n L) (hb:Below w.heap.size w w'):NestRow w' g T E K n L:=by
 obtain ⟨f,h1,h2⟩:=h;exact ⟨f,h1.of_block (hb.block g h1.lt),fun i hi=>(h2 i hi).after hb⟩
theorem NestRow.lt (h:NestRow w g T E K n L):g<w.heap.size:=by
 obtain ⟨f,h1,_⟩:=h;exact h1.lt
theorem NestTo.cell (h:NestTo w g T E K n L k) (hk:k<n):w.cell? ⟨g,k,none⟩=some (.slice none 0 0):=by
 obtain ⟨f,h1,_,h3⟩:=h;rw [h1.cell hk,h3 k (Nat.le_refl _)]
theorem NestTo.frozen (h:NestTo w g T E K n L k) (j:Nat):w.frozen? ⟨g,j,none⟩=false:=by
 obtain ⟨f,h1,_,_⟩:=h;exact h1.frozen j
theorem NestTo.start (w:World) (T E:TypeId) (K n:Nat) (L:List (Nat × List Int)):NestTo (w.alloc (.cells (madeCells #[.slice none 0 0] n) T)) w.heap.size T E K n L 0 :=
 ⟨_,World.rowIs_made w (.slice none 0 0) n T,fun i hi=>absurd hi (by omega),fun _ _=>rfl⟩
theorem NestTo.step {gi:Nat} (h:NestTo w g T E K n L k) (hg:g<gi) (hr:w.rowIs gi E (rowN L k*K) (ints (rowZ L k))):NestTo (w.setCell ⟨g,k,none⟩ (.slice (some ⟨gi,0,none⟩) (rowN L k) (rowN L k))) g T E K n L (k+1):=by
 obtain ⟨f,h1,h2,h3⟩:=h;refine ⟨_,h1.set k _,fun i hi => ?_,fun i hi => ?_⟩
 ·by_cases hik:i=k
  ·subst hik
   exact ⟨gi,by simp,hg,hr.of_block (Below.heap_setCell _ _ _ _ (by simp; omega))⟩
  ·obtain ⟨gj,e1,e2,e3⟩:=h2 i (by omega)
   exact ⟨gj,by simp [hik,e1],e2,e3.of_block (Below.heap_setCell _ _ _ _ (by simp; omega))⟩
 ·have:i ≠ k:=by omega
  simp [this,h3 i (by omega)]
theorem NestRow.nestAt (h:NestRow w g T E K n L) (hL:L.length=n) (hl:∀ i,i<n->(rowZ L i).length=rowN L i*K) (hr:∀ i,i<n->rowN L i<=1048576):NestAt w w.heap.size K (some ⟨g,0,none⟩) n L:=by
 obtain ⟨f,h1,h2⟩:=h;refine nestAt_row h1 hL fun i hi => ?_
 obtain ⟨gi,e1,e2,e3⟩:=h2 i hi;exact ⟨_,_,e1,recsAt_row e3 (hl i hi) (fun k _=>rfl),Nat.le_refl _,by have:=hr i hi; unfold maxLen; omega⟩
theorem NestAt.lens {B:Nat} {A:Option Addr} (h:NestAt w B K A n L):∀ i,i<n->(rowZ L i).length=rowN L i*K:=by
 intro i hi;obtain ⟨b,off,_,_,hc⟩:=h.2 (by omega);obtain ⟨_,_,_,hr,_⟩:=hc i hi;exact hr.1
end
end
section
open Go.RowKit
theorem OwnV.slice {w:World} {base:Nat} {E:TypeId} {v:Value} {xs:List Int} (h:OwnV w base E v xs):∃ A k c,v = .slice A k c:=by
 rcases h.form with ⟨e,_⟩ | ⟨g,cap,e,_⟩
 ·exact ⟨_,_,_,e⟩
 ·exact ⟨_,_,_,e⟩
end
section
open Go.RowKit
def OwnC (w:World) (base:Nat) (E:TypeId) (v:Value) (n:Nat) (cs:List Value):Prop:=w.ownsRow base E 1 v n cs/\cs.length=n
section
variable {w w' : World} {base : Nat} {E : TypeId} {n : Nat} {v : Value} {cs : List Value}
theorem OwnC.alloc (h:OwnC w base E v n cs) (o:Obj):OwnC (w.alloc o) base E v n cs:=⟨World.ownsRow.alloc h.1 o,h.2⟩
theorem OwnC.drewN (h:OwnC w base E v n cs) (k:Nat):OwnC (w.drewN k) base E v n cs:=h
theorem OwnC.ownLt (h:OwnC w base E v n cs):∀ k,v.ownBlock=some k->base<=k:=fun k hk=>(World.ownsRow.lt h.1 k hk).1
theorem OwnC.below (h:OwnC w base E v n cs) (hb:Below w.heap.size w w'):OwnC w' base E v n cs:=by
 refine ⟨⟨h.1.1,?_⟩,h.2⟩;rcases h.1.2 with h2 | ⟨g,cap,cur,h1,h2,h3,hr⟩
 ·exact .inl h2
 ·refine .inr ⟨g,cap,cur,h1,h2,(hb.block g ?_).trans h3,hr⟩
  exact (Array.getElem?_eq_some_iff.1 h3).1
theorem OwnC.new (w:World) (E:TypeId):OwnC (w.alloc (.cells #[] E)) w.heap.size E (.slice (some ⟨w.heap.size,0,none⟩) 0 0) 0 [] :=
 ⟨World.ownsRow_lit (base:=w.heap.size) (e:=E) (size:=1) w #[] 0 (Nat.le_refl _) (by simp [maxLen]) (by simp),by simp⟩
theorem OwnC.form (h:OwnC w base E v n cs):(v = .slice none 0 0/\n=0/\cs = []) ∨ ∃ g cap,v = .slice (some ⟨g,0,none⟩) n cap/\base<=g/\n<=cap/\g<w.heap.size/\∀ i,i<n->w.cell? ⟨g,i,none⟩=cs[i]?:=by
 rcases h.1.2 with ⟨h1,h2⟩ | ⟨g,cap,cur,h1,h2,h3,h4,h5,h6,h7⟩
 ·exact .inl ⟨h1,h2,List.eq_nil_of_length_eq_zero (by rw [h.2,h2])⟩
 ·refine .inr ⟨g,cap,h1,h2,h4,(Array.getElem?_eq_some_iff.1 h3).1,fun i hi => ?_⟩
  have e:(cur.toList.take (n*1))[i]?=cs[i]?:=by rw [h7]
  rw [List.getElem?_take,if_pos (by omega)] at e;rw [<- e];simp [World.cell?,h3]
theorem OwnC.slice (h:OwnC w base E v n cs):∃ A c,v = .slice A n c/\n<=c:=by
 rcases h.form with ⟨rfl,rfl,_⟩ | ⟨g,cap,rfl,_,hc,_⟩
 ·exact ⟨_,_,rfl,Nat.le_refl _⟩
 ·exact ⟨_,_,rfl,hc⟩
end
end
section
open Go.RowKit
theorem OwnC.ofBlock {w w':World} {base:Nat} {E:TypeId} {n:Nat} {v:Value} {cs:List Value} (h:OwnC w base E v n cs) (e:∀ g,v.ownBlock=some g->w'.heap[g]?=w.heap[g]?):OwnC w' base E v n cs:=by
 refine ⟨⟨h.1.1,?_⟩,h.2⟩;rcases h.1.2 with h2 | ⟨g,cap,cur,h1,h2,h3,hr⟩
 ·exact .inl h2
 ·exact .inr ⟨g,cap,cur,h1,h2,(e g (by rw [h1]; simp [Value.ownBlock])).trans h3,hr⟩
theorem OwnV.apart {w:World} {base base':Nat} {E E':TypeId} {n:Nat} {v u:Value} {xs:List Int} {cs:List Value} (h:OwnV w base E v xs) (h':OwnC w base' E' u n cs) (hE:E' ≠ E) (g:Nat) (hv:v.ownBlock=some g):u.ownBlock ≠ some g:=fun hu=>by
 rcases h'.1.2 with ⟨h1,_⟩ | ⟨g0,cap,cur,h1,_,h3,_⟩
 ·rw [h1] at hu; simp [Value.ownBlock] at hu
 ·rw [h1] at hu
  simp [Value.ownBlock] at hu;subst hu;rcases h.2 with ⟨h1',_⟩ | ⟨g1,cap',cur',h1',_,h3',_⟩
  ·rw [h1'] at hv; simp [Value.ownBlock] at hv
  ·rw [h1'] at hv
   simp [Value.ownBlock] at hv;subst hv;rw [h3] at h3';simp at h3';exact hE h3'.2
end
end Go.Proofs.YtjcgklifabcfkaaGreat
