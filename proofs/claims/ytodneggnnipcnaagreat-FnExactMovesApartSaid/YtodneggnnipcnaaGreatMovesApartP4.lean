/-
  Texts that the law stands on, part 4.
-/
import Derived.Test.YtodneggnnipcnaaGreatMovesApartP1
import Derived.Test.YtodneggnnipcnaaGreatMovesApartP2
import Derived.Test.YtodneggnnipcnaaGreatMovesApartP3
import Derived.Test.YtodneggnnipcnaaGreatH17
import Derived.Test.YtodneggnnipcnaaGreatH18
import Derived.Test.YtodneggnnipcnaaGreatH20
import Derived.Test.YtodneggnnipcnaaGreatH21
set_option maxRecDepth 100000
set_option linter.unusedVariables false
set_option linter.unusedSimpArgs false
namespace Go.Proofs.YtodneggnnipcnaaGreat
namespace X
open Go.RowKit
noncomputable def setV (zs:List Int) (n:Nat) (ls:List Int) (q:Nat) (k:Int):Value:=if k=1 then endV (lstB zs n ls q) (-1) (thrL zs n ls q) (thrN zs n ls q) else if k=2 then endV (grtB zs n ls q) 1 (thrL zs n ls q) (thrN zs n ls q) else thrV 0 0 0 0 false
theorem setV_1 (zs:List Int) (n:Nat) (ls:List Int) (q:Nat):setV zs n ls q 1=endV (lstB zs n ls q) (-1) (thrL zs n ls q) (thrN zs n ls q):=by simp [setV]
theorem setV_2 (zs:List Int) (n:Nat) (ls:List Int) (q:Nat):setV zs n ls q 2=endV (grtB zs n ls q) 1 (thrL zs n ls q) (thrN zs n ls q):=by simp [setV]
theorem setV_3 {k:Int} (h1:¬ k=1) (h2:¬ k=2) (zs:List Int) (n:Nat) (ls:List Int) (q:Nat):setV zs n ls q k=thrV 0 0 0 0 false:=by simp [setV,h1,h2]
theorem setV_ex (zs:List Int) (n:Nat) (ls:List Int) (q:Nat) (k:Int):∃ q0 q1 q2 q3 bb,setV zs n ls q k = .tuple #[.agg #[.int .i64 q0,.int .i64 q1,.int .i64 q2,.int .i64 q3],.bool bb]:=by
 by_cases h1:k=1
 ·subst h1; rw [setV_1]; exact endV_ex _ _ _ _
 ·by_cases h2:k=2
  ·subst h2; rw [setV_2]; exact endV_ex _ _ _ _
  ·rw [setV_3 h1 h2]; exact ⟨0,0,0,0,false,rfl⟩
section
variable (A : Option Addr) (n c : Nat) (zs : List Int) (B : Option Addr) (q d : Nat) (ls : List Int) (kd : Int) (w : World) (h : RecsAt w w.heap.size 4 A n zs) (hn : n ≤ 1048576) (hl : RecsAt w w.heap.size 3 B q ls) (hq : q ≤ 1048576)
include h hn hl hq
set_option maxRecDepth 100000 in
set_option maxHeartbeats 3200000 in
theorem sSettle_any:Calls Tryzx.prog 17 #[.agg #[.slice A n c],.slice B q d,.int .i64 kd] w fun e w'=>e = .returned (setV zs n ls q kd)∧Below w.heap.size w w':=by
 have hz0:(w.alloc (.cells #[.slice A n c] 32)).heap.size=w.heap.size+1:=by simp
 have b0:Below w.heap.size w ((w.alloc (.cells #[.slice A n c] 32)).alloc (.cells #[.int .i64 0,.int .i64 0,.int .i64 0,.int .i64 0] 40)):=((Below.refl _ _).alloc (Nat.le_refl _) _).alloc (by simp) _;have bx0:Box ((w.alloc (.cells #[.slice A n c] 32)).alloc (.cells #[.int .i64 0,.int .i64 0,.int .i64 0,.int .i64 0] 40)) w.heap.size (.slice A n c):=(Box.new w (.slice A n c) 32).alloc _;have HA0:Hid (RowF ((w.alloc (.cells #[.slice A n c] 32)).alloc (.cells #[.int .i64 0,.int .i64 0,.int .i64 0,.int .i64 0] 40)) (w.heap.size+1) 40 4 (ints [0,0,0,0])):=Lib.hid (by
  have h:=RowF.of_row (World.rowIs_alloc (w.alloc (.cells #[.slice A n c] 32)) #[.int .i64 0,.int .i64 0,.int .i64 0,.int .i64 0] 40 (ints [0,0,0,0]) (fun i hi=>by simp at hi; match i,hi with | 0,_=>rfl | 1,_=>rfl | 2,_=>rfl | 3,_=>rfl))
  rw [hz0] at h;exact h)
 have HX:=Lib.hid bx0;have HH:=Lib.hid h;have HL:=Lib.hid hl;have HB0:=Lib.hid b0;have cx0:=bx0.1;have hw1:=h.after b0;have hw2:=hl.after b0;clear hz0 b0 bx0 h hl;by_cases h1:kd=1
 ·subst h1
  have HS:=Lib.hid (setV_1 zs n ls q);obtain ⟨q0,q1,q2,q3,bb,hE⟩:=endV_ex (lstB zs n ls q) (-1) (thrL zs n ls q) (thrN zs n ls q);have HE:=Lib.hid hE;go_enter Tryzx.func17,Tryz.ntmps17;go_wp2_with fail
  refine (sLst_any _ _ _ zs _ _ _ ls _ (by exact hw1) hn (by exact hw2) hq).mono ?_;rintro e w2 ⟨rfl,hb2⟩;rw [hE];have HA2:=Lib.hid (HA0.out.after hb2);have HB2:=Lib.hid (below_then HB0.out hb2);clear hb2 cx0 HA0 HB0 HX hw1 hw2 hE;obtain ⟨⟨d0,d1,d2,d3⟩,f0,f1,f2,f3⟩:=row4 HA2.out;go_wp2;refine bodyPost_ret (v := .tuple #[.agg #[.int .i64 q0,.int .i64 q1,.int .i64 q2,.int .i64 q3],.bool bb]) (by simp [results,Tryz.results17,go_sem, *]) rfl ⟨by rw [HS.out,HE.out],?_⟩;exact below_set4' HB2.out (Nat.le_succ _) _ _ _ _
 ·have e1:(kd == 1)=false:=by simp [h1]
  by_cases h2:kd=2
  ·subst h2
   have HS:=Lib.hid (setV_2 zs n ls q);obtain ⟨q0,q1,q2,q3,bb,hE⟩:=endV_ex (grtB zs n ls q) 1 (thrL zs n ls q) (thrN zs n ls q);have HE:=Lib.hid hE;go_enter Tryzx.func17,Tryz.ntmps17;go_wp2_with fail
   refine (sGrt_any _ _ _ zs _ _ _ ls _ (by exact hw1) hn (by exact hw2) hq).mono ?_;rintro e w2 ⟨rfl,hb2⟩;rw [hE];have HA2:=Lib.hid (HA0.out.after hb2);have HB2:=Lib.hid (below_then HB0.out hb2);clear hb2 cx0 HA0 HB0 HX hw1 hw2 hE;obtain ⟨⟨d0,d1,d2,d3⟩,f0,f1,f2,f3⟩:=row4 HA2.out;go_wp2;refine bodyPost_ret (v := .tuple #[.agg #[.int .i64 q0,.int .i64 q1,.int .i64 q2,.int .i64 q3],.bool bb]) (by simp [results,Tryz.results17,go_sem, *]) rfl ⟨by rw [HS.out,HE.out],?_⟩;exact below_set4' HB2.out (Nat.le_succ _) _ _ _ _
  ·have e2:(kd == 2)=false:=by simp [h2]
   have HS:=Lib.hid (setV_3 h1 h2 zs n ls q);go_enter Tryzx.func17,Tryz.ntmps17;obtain ⟨⟨d0,d1,d2,d3⟩,f0,f1,f2,f3⟩:=row4 HA0.out;go_wp2;refine bodyPost_ret (v:=thrV 0 0 0 0 false) (by simp [thrV,results,Tryz.results17,go_sem, *]) rfl ⟨by rw [HS.out],?_⟩;first | exact HB0.out | exact below_set4' HB0.out (Nat.le_succ _) _ _ _ _
set_option maxRecDepth 100000 in
set_option maxHeartbeats 3200000 in
theorem iSettle_any:Calls Tryzx.prog 18 #[.agg #[.slice A n c],.slice B q d,.int .i64 kd] w fun e w'=>e = .returned (setV zs n ls q kd)∧Below w.heap.size w w':=by
 have hz0:(w.alloc (.cells #[.slice A n c] 32)).heap.size=w.heap.size+1:=by simp
 have b0:Below w.heap.size w ((w.alloc (.cells #[.slice A n c] 32)).alloc (.cells #[.int .i64 0,.int .i64 0,.int .i64 0,.int .i64 0] 40)):=((Below.refl _ _).alloc (Nat.le_refl _) _).alloc (by simp) _;have bx0:Box ((w.alloc (.cells #[.slice A n c] 32)).alloc (.cells #[.int .i64 0,.int .i64 0,.int .i64 0,.int .i64 0] 40)) w.heap.size (.slice A n c):=(Box.new w (.slice A n c) 32).alloc _;have HA0:Hid (RowF ((w.alloc (.cells #[.slice A n c] 32)).alloc (.cells #[.int .i64 0,.int .i64 0,.int .i64 0,.int .i64 0] 40)) (w.heap.size+1) 40 4 (ints [0,0,0,0])):=Lib.hid (by
  have h:=RowF.of_row (World.rowIs_alloc (w.alloc (.cells #[.slice A n c] 32)) #[.int .i64 0,.int .i64 0,.int .i64 0,.int .i64 0] 40 (ints [0,0,0,0]) (fun i hi=>by simp at hi; match i,hi with | 0,_=>rfl | 1,_=>rfl | 2,_=>rfl | 3,_=>rfl))
  rw [hz0] at h;exact h)
 have HX:=Lib.hid bx0;have HH:=Lib.hid h;have HL:=Lib.hid hl;have HB0:=Lib.hid b0;have cx0:=bx0.1;have hw1:=h.after b0;have hw2:=hl.after b0;clear hz0 b0 bx0 h hl;by_cases h1:kd=1
 ·subst h1
  have HS:=Lib.hid (setV_1 zs n ls q);obtain ⟨q0,q1,q2,q3,bb,hE⟩:=endV_ex (lstB zs n ls q) (-1) (thrL zs n ls q) (thrN zs n ls q);have HE:=Lib.hid hE;go_enter Tryzx.func18,Tryz.ntmps18;go_wp2_with fail
  refine (iLst_any _ _ _ zs _ _ _ ls _ (by exact hw1) hn (by exact hw2) hq).mono ?_;rintro e w2 ⟨rfl,hb2⟩;rw [hE];have HA2:=Lib.hid (HA0.out.after hb2);have HB2:=Lib.hid (below_then HB0.out hb2);clear hb2 cx0 HA0 HB0 HX hw1 hw2 hE;obtain ⟨⟨d0,d1,d2,d3⟩,f0,f1,f2,f3⟩:=row4 HA2.out;go_wp2;refine bodyPost_ret (v := .tuple #[.agg #[.int .i64 q0,.int .i64 q1,.int .i64 q2,.int .i64 q3],.bool bb]) (by simp [results,Tryz.results18,go_sem, *]) rfl ⟨by rw [HS.out,HE.out],?_⟩;exact below_set4' HB2.out (Nat.le_succ _) _ _ _ _
 ·have e1:(kd == 1)=false:=by simp [h1]
  by_cases h2:kd=2
  ·subst h2
   have HS:=Lib.hid (setV_2 zs n ls q);obtain ⟨q0,q1,q2,q3,bb,hE⟩:=endV_ex (grtB zs n ls q) 1 (thrL zs n ls q) (thrN zs n ls q);have HE:=Lib.hid hE;go_enter Tryzx.func18,Tryz.ntmps18;go_wp2_with fail
   refine (iGrt_any _ _ _ zs _ _ _ ls _ (by exact hw1) hn (by exact hw2) hq).mono ?_;rintro e w2 ⟨rfl,hb2⟩;rw [hE];have HA2:=Lib.hid (HA0.out.after hb2);have HB2:=Lib.hid (below_then HB0.out hb2);clear hb2 cx0 HA0 HB0 HX hw1 hw2 hE;obtain ⟨⟨d0,d1,d2,d3⟩,f0,f1,f2,f3⟩:=row4 HA2.out;go_wp2;refine bodyPost_ret (v := .tuple #[.agg #[.int .i64 q0,.int .i64 q1,.int .i64 q2,.int .i64 q3],.bool bb]) (by simp [results,Tryz.results18,go_sem, *]) rfl ⟨by rw [HS.out,HE.out],?_⟩;exact below_set4' HB2.out (Nat.le_succ _) _ _ _ _
  ·have e2:(kd == 2)=false:=by simp [h2]
   have HS:=Lib.hid (setV_3 h1 h2 zs n ls q);go_enter Tryzx.func18,Tryz.ntmps18;obtain ⟨⟨d0,d1,d2,d3⟩,f0,f1,f2,f3⟩:=row4 HA0.out;go_wp2;refine bodyPost_ret (v:=thrV 0 0 0 0 false) (by simp [thrV,results,Tryz.results18,go_sem, *]) rfl ⟨by rw [HS.out],?_⟩;first | exact HB0.out | exact below_set4' HB0.out (Nat.le_succ _) _ _ _ _
end
end X
namespace X
open Go.RowKit
theorem setQ (zs:List Int) (n:Nat) (ls:List Int) (q:Nat):∃ t:Int × Int × Int × Int × Bool,setV zs n ls q 1 = .tuple #[.agg #[.int .i64 t.1,.int .i64 t.2.1,.int .i64 t.2.2.1,.int .i64 t.2.2.2.1],.bool t.2.2.2.2]:=by
 obtain ⟨a,b,c,d,e,h⟩:=setV_ex zs n ls q 1;exact ⟨(a,b,c,d,e),h⟩
noncomputable def movJ (zs:List Int) (n:Nat) (ls:List Int) (q:Nat) (a b c d:Int):Nat:=dcnt (hjs (hgJ zs n ls q a b c d)) (hgJ zs n ls q a b c d).length
noncomputable def movB (zs:List Int) (n:Nat) (ls:List Int) (q:Nat):Bool :=
 (setQ zs n ls q).choose.2.2.2.2 && decide ((3:Int)≤(movJ zs n ls q (setQ zs n ls q).choose.1 (setQ zs n ls q).choose.2.1 (setQ zs n ls q).choose.2.2.1 (setQ zs n ls q).choose.2.2.2.1:Nat))
theorem mov_ex (zs:List Int) (n:Nat) (ls:List Int) (q:Nat):∃ a b c d e,setV zs n ls q 1 = .tuple #[.agg #[.int .i64 a,.int .i64 b,.int .i64 c,.int .i64 d],.bool e]∧movB zs n ls q=(e && decide ((3:Int)≤(movJ zs n ls q a b c d:Nat))) :=
 ⟨_,_,_,_,_,(setQ zs n ls q).choose_spec,rfl⟩
section
variable (A : Option Addr) (n c : Nat) (zs : List Int) (B : Option Addr) (q d : Nat) (ls : List Int) (w : World) (h : RecsAt w w.heap.size 4 A n zs) (hn : n ≤ 1048576) (hl : RecsAt w w.heap.size 3 B q ls) (hq : q ≤ 1048576)
include h hn hl hq
set_option maxRecDepth 100000 in
set_option maxHeartbeats 3200000 in
theorem sMoves_any:Calls Tryzx.prog 32 #[.agg #[.slice A n c],.slice B q d] w fun e w'=>e = .returned (.bool (movB zs n ls q))∧Below w.heap.size w w':=by
 have b0:Below w.heap.size w (w.alloc (.cells #[.slice A n c] 32)):=(Below.refl _ _).alloc (Nat.le_refl _) _;have HX:Hid (Box (w.alloc (.cells #[.slice A n c] 32)) w.heap.size (.slice A n c)):=Lib.hid (Box.new _ _ _);have h1:=h.after b0;have l1:=hl.after b0;have HB0:=Lib.hid b0;have HH:=Lib.hid h;have HL:=Lib.hid hl;have cx0:=HX.out.1;obtain ⟨t0,t1,t2,t3,bb,hE,hM⟩:=mov_ex zs n ls q;have HM:=Lib.hid hM;clear h hl b0 hM;go_enter Tryzx.func32,Tryz.ntmps32;go_wp2_with fail
 refine (sSettle_any _ _ _ zs _ _ _ ls 1 _ (by exact h1) hn (by exact l1) hq).mono ?_;rintro e w1 ⟨rfl,hb1⟩;rw [hE];have HB1:=Lib.hid (below_then HB0.out hb1);have HX1:=Lib.hid (HX.out.after hb1);clear hb1 cx0 HX HB0 h1 l1 hE;have cx1:=HX1.out.1;have hz1:=HB1.out.size;cases bb
 ·have HF:Hid (movB zs n ls q=false):=Lib.hid (by rw [HM.out]; rfl)
  clear HM;have HBB:=Lib.hid (HB1.out.alloc hz1 (.cells #[.int .i64 t0,.int .i64 t1,.int .i64 t2,.int .i64 t3] 40));go_wp2;go_ret;exact ⟨by rw [HF.out]; rfl,HBB.out⟩
 ·have HF:Hid (movB zs n ls q=decide ((3:Int)≤(movJ zs n ls q t0 t1 t2 t3:Nat))):=Lib.hid (by rw [HM.out]; rfl)
  clear HM;have hnew:=Box4.new w1 t0 t1 t2 t3 40;have HBB:=Lib.hid (HB1.out.alloc hz1 (.cells #[.int .i64 t0,.int .i64 t1,.int .i64 t2,.int .i64 t3] 40));have hbx:Below w1.heap.size w1 (w1.alloc (.cells #[.int .i64 t0,.int .i64 t1,.int .i64 t2,.int .i64 t3] 40)):=(Below.refl _ _).alloc (Nat.le_refl _) _;have HXX:=Lib.hid (HX1.out.after hbx);have cxx:=HXX.out.1;have t0':=hnew.1.1;have t1':=hnew.1.2.1;have t2':=hnew.1.2.2.1;have t3':=hnew.1.2.2.2;have r1:=HH.out.after HBB.out;have r2:=HL.out.after HBB.out;clear hnew hbx;go_wp2_with fail
  refine (sHng_any _ _ _ zs _ _ _ ls _ _ _ _ _ (by exact r1) hn (by exact r2) hq).mono ?_;rintro e w2 ⟨A2,c2,rfl,h2,hb2⟩;have HB2:=Lib.hid (below_then HBB.out hb2);have hi:=hgJ_in zs n ls q t0 t1 t2 t3;clear hb2 r1 r2 cxx cx1 t0' t1' t2' t3';go_wp2_with fail
  refine (sJts_any _ _ _ _ _ (by exact h2) hi.1 ).mono ?_;rintro e w3 ⟨rfl,hb3⟩;have HB3:=Lib.hid (below_then HB2.out hb3);clear hb3 h2;go_wp2;go_ret;exact ⟨by rw [HF.out]; rfl,HB3.out⟩
set_option maxRecDepth 100000 in
set_option maxHeartbeats 3200000 in
theorem iMoves_any:Calls Tryzx.prog 33 #[.agg #[.slice A n c],.slice B q d] w fun e w'=>e = .returned (.bool (movB zs n ls q))∧Below w.heap.size w w':=by
 have b0:Below w.heap.size w (w.alloc (.cells #[.slice A n c] 32)):=(Below.refl _ _).alloc (Nat.le_refl _) _;have HX:Hid (Box (w.alloc (.cells #[.slice A n c] 32)) w.heap.size (.slice A n c)):=Lib.hid (Box.new _ _ _);have h1:=h.after b0;have l1:=hl.after b0;have HB0:=Lib.hid b0;have HH:=Lib.hid h;have HL:=Lib.hid hl;have cx0:=HX.out.1;obtain ⟨t0,t1,t2,t3,bb,hE,hM⟩:=mov_ex zs n ls q;have HM:=Lib.hid hM;clear h hl b0 hM;go_enter Tryzx.func33,Tryz.ntmps33;go_wp2_with fail
 refine (iSettle_any _ _ _ zs _ _ _ ls 1 _ (by exact h1) hn (by exact l1) hq).mono ?_;rintro e w1 ⟨rfl,hb1⟩;rw [hE];have HB1:=Lib.hid (below_then HB0.out hb1);have HX1:=Lib.hid (HX.out.after hb1);clear hb1 cx0 HX HB0 h1 l1 hE;have cx1:=HX1.out.1;have hz1:=HB1.out.size;cases bb
 ·have HF:Hid (movB zs n ls q=false):=Lib.hid (by rw [HM.out]; rfl)
  clear HM;have HBB:=Lib.hid (HB1.out.alloc hz1 (.cells #[.int .i64 t0,.int .i64 t1,.int .i64 t2,.int .i64 t3] 40));go_wp2;go_ret;exact ⟨by rw [HF.out]; rfl,HBB.out⟩
 ·have HF:Hid (movB zs n ls q=decide ((3:Int)≤(movJ zs n ls q t0 t1 t2 t3:Nat))):=Lib.hid (by rw [HM.out]; rfl)
  clear HM;have hnew:=Box4.new w1 t0 t1 t2 t3 40;have HBB:=Lib.hid (HB1.out.alloc hz1 (.cells #[.int .i64 t0,.int .i64 t1,.int .i64 t2,.int .i64 t3] 40));have hbx:Below w1.heap.size w1 (w1.alloc (.cells #[.int .i64 t0,.int .i64 t1,.int .i64 t2,.int .i64 t3] 40)):=(Below.refl _ _).alloc (Nat.le_refl _) _;have HXX:=Lib.hid (HX1.out.after hbx);have cxx:=HXX.out.1;have t0':=hnew.1.1;have t1':=hnew.1.2.1;have t2':=hnew.1.2.2.1;have t3':=hnew.1.2.2.2;have r1:=HH.out.after HBB.out;have r2:=HL.out.after HBB.out;clear hnew hbx;go_wp2_with fail
  refine (iHng_any _ _ _ zs _ _ _ ls _ _ _ _ _ (by exact r1) hn (by exact r2) hq).mono ?_;rintro e w2 ⟨A2,c2,rfl,h2,hb2⟩;have HB2:=Lib.hid (below_then HBB.out hb2);have hi:=hgJ_in zs n ls q t0 t1 t2 t3;clear hb2 r1 r2 cxx cx1 t0' t1' t2' t3';go_wp2_with fail
  refine (iJts_any _ _ _ _ _ (by exact h2) hi.1 hi.2).mono ?_;rintro e w3 ⟨rfl,hb3⟩;have HB3:=Lib.hid (below_then HB2.out hb3);clear hb3 h2;go_wp2;go_ret;exact ⟨by rw [HF.out]; rfl,HB3.out⟩
end
end X
namespace X
open Go.RowKit
set_option maxRecDepth 100000 in
set_option maxHeartbeats 1600000 in
theorem fnExactMovesApart.walk (A0:Option Addr) (n0 c0:Nat) (z0:List Int) (hm0:n0≤maxLen) (A1:Option Addr) (n1 c1:Nat) (z1:List Int) (hm1:n1≤maxLen) (w:World) (a0_:RecsAt w w.heap.size 4 A0 n0 z0) (a1_:RecsAt w w.heap.size 3 A1 n1 z1) :
  Calls Tryzx.prog 8 #[.agg #[.slice A0 n0 c0],.slice A1 n1 c1] w fun e w'=>e = .returned (.bool true)∧Below w.heap.size w w':=by
 have hm0':n0≤9223372036854775807:=by unfold maxLen at hm0; omega
 have hm1':n1≤9223372036854775807:=by unfold maxLen at hm1; omega
 have b_0:Below w.heap.size w w:=Below.refl _ _;have a0_0:=a0_;have a1_0:=a1_;have hb_1:Below w.heap.size w (w.alloc (.cells #[.slice A0 n0 c0] 24)):=(Below.refl _ _).alloc (Nat.le_refl _) _;have b_1:=below_then b_0 hb_1;clear b_0;have a0_1:=a0_0.after hb_1;clear a0_0;have a1_1:=a1_0.after hb_1;clear a1_0;clear hb_1;have bx0_1:Box (w.alloc (.cells #[.slice A0 n0 c0] 24)) w.heap.size (.slice A0 n0 c0):=Box.new _ _ _;go_enter Tryzx.func8,Tryz.ntmps8;go_wp2_with fail
 refine (sz1_any (n:=n0) (by omega) (fun h=>szArch_ok A0 n0 c0 _ _ (by omega) (by omega) hm0' h) (fun h=>szArch_no A0 n0 c0 _ _ (by omega) (by omega) hm0' h)).mono ?_;rintro e w2 ⟨r2,rfl,hb_2,hr2⟩;have b_2:=below_then b_1 hb_2;clear b_1;have a0_2:=a0_1.after hb_2;clear a0_1;have a1_2:=a1_1.after hb_2;clear a1_1;have bx0_2:=bx0_1.after hb_2;clear bx0_1;have cbx0_2:=bx0_2.1;clear hb_2;rcases hr2 with rfl | hr2
 ·go_wp2
  go_ret;exact ⟨rfl,b_2⟩
 obtain ⟨hr2a,hr2b,hr2c⟩:=hr2;have hn0:n0≤1048576:=by omega
 have ht0:¬ r2<0:=by omega
 go_wp2_with fail
 refine (sz1_any (n:=n1) (by omega) (fun h=>calls_below (szLoadS_ok A1 n1 c1 _ _ (by omega) (by omega) hm1' h)) (fun h=>calls_below (szLoadS_no A1 n1 c1 _ _ (by omega) (by omega) hm1' h))).mono ?_;rintro e w3 ⟨r3,rfl,hb_3,hr3⟩;have b_3:=below_then b_2 hb_3;clear b_2;have a0_3:=a0_2.after hb_3;clear a0_2;have a1_3:=a1_2.after hb_3;clear a1_2;have bx0_3:=bx0_2.after hb_3;clear bx0_2;have cbx0_3:=bx0_3.1;clear cbx0_2;clear hb_3;rcases hr3 with rfl | hr3
 ·go_wp2
  go_ret;exact ⟨rfl,b_3⟩
 obtain ⟨hr3a,hr3b,hr3c⟩:=hr3;have hn1:n1≤1048576:=by omega
 have ht1:¬ r3<0:=by omega
 go_wp2_with fail
 refine (toArch_any A0 n0 c0 z0 _ a0_3 hn0).mono ?_;rintro e w4 ⟨g4,rfl,_,r_4,hb_4⟩;have b_4:=below_then b_3 hb_4;clear b_3;have a0_4:=a0_3.after hb_4;clear a0_3;have a1_4:=a1_3.after hb_4;clear a1_3;have bx0_4:=bx0_3.after hb_4;clear bx0_3;have cbx0_4:=bx0_4.1;clear cbx0_3;have s0_4:=recsAt_row r_4 a0_.1 (fun k _=>rfl);clear r_4 hb_4;go_wp2_with fail
 refine (toLoadS_ex A1 n1 c1 z1 _ a1_4 hn1).mono ?_;rintro e w5 ⟨g5,rfl,_,r_5,hb_5⟩;have b_5:=below_then b_4 hb_5;clear b_4;have a0_5:=a0_4.after hb_5;clear a0_4;have a1_5:=a1_4.after hb_5;clear a1_4;have bx0_5:=bx0_4.after hb_5;clear bx0_4;have s0_5:=s0_4.after hb_5;clear s0_4;have cbx0_5:=bx0_5.1;clear cbx0_4;have s1_5:=recsAt_row r_5 a1_.1 (fun k _=>rfl);clear r_5 hb_5;go_wp2_with fail
 refine (sMoves_any _ _ _ z0 _ _ _ z1 _ s0_5 hn0 s1_5 hn1).mono ?_;rintro e w6 ⟨rfl,hb_6⟩;have b_6:=below_then b_5 hb_6;clear b_5;have a0_6:=a0_5.after hb_6;clear a0_5;have a1_6:=a1_5.after hb_6;clear a1_5;have bx0_6:=bx0_5.after hb_6;clear bx0_5;have s0_6:=s0_5.after hb_6;clear s0_5;have s1_6:=s1_5.after hb_6;clear s1_5;have cbx0_6:=bx0_6.1;clear cbx0_5;clear hb_6;clear s0_6;clear s1_6;go_wp2_with fail
 refine (toArch_any A0 n0 c0 z0 _ a0_6 hn0).mono ?_;rintro e w7 ⟨g7,rfl,_,r_7,hb_7⟩;have b_7:=below_then b_6 hb_7;clear b_6;have a0_7:=a0_6.after hb_7;clear a0_6;have a1_7:=a1_6.after hb_7;clear a1_6;have bx0_7:=bx0_6.after hb_7;clear bx0_6;have cbx0_7:=bx0_7.1;clear cbx0_6;have s0_7:=recsAt_row r_7 a0_.1 (fun k _=>rfl);clear r_7 hb_7;have hb_8:Below w7.heap.size w7 (w7.alloc (.cells #[.slice (some ⟨g7,0,none⟩) n0 n0] 32)):=(Below.refl _ _).alloc (Nat.le_refl _) _;have b_8:=below_then b_7 hb_8;clear b_7;have a0_8:=a0_7.after hb_8;clear a0_7;have a1_8:=a1_7.after hb_8;clear a1_7;have bx0_8:=bx0_7.after hb_8;clear bx0_7;have s0_8:=s0_7.after hb_8;clear s0_7;have cbx0_8:=bx0_8.1;clear cbx0_7;clear hb_8;have by0_8:Box (w7.alloc (.cells #[.slice (some ⟨g7,0,none⟩) n0 n0] 32)) w7.heap.size (.slice (some ⟨g7,0,none⟩) n0 n0):=Box.new _ _ _;have cby0_8:=by0_8.1;go_wp2_with fail
 refine (toLoadS_ex A1 n1 c1 z1 _ a1_8 hn1).mono ?_;rintro e w9 ⟨g9,rfl,_,r_9,hb_9⟩;have b_9:=below_then b_8 hb_9;clear b_8;have a0_9:=a0_8.after hb_9;clear a0_8;have a1_9:=a1_8.after hb_9;clear a1_8;have bx0_9:=bx0_8.after hb_9;clear bx0_8;have s0_9:=s0_8.after hb_9;clear s0_8;have by0_9:=by0_8.after hb_9;clear by0_8;have cbx0_9:=bx0_9.1;clear cbx0_8;have cby0_9:=by0_9.1;clear cby0_8;have s1_9:=recsAt_row r_9 a1_.1 (fun k _=>rfl);clear r_9 hb_9;go_wp2_with fail
 refine (iMoves_any _ _ _ z0 _ _ _ z1 _ s0_9 hn0 s1_9 hn1).mono ?_;rintro e w10 ⟨rfl,hb_10⟩;have b_10:=below_then b_9 hb_10;clear b_9;have a0_10:=a0_9.after hb_10;clear a0_9;have a1_10:=a1_9.after hb_10;clear a1_9;have bx0_10:=bx0_9.after hb_10;clear bx0_9;have s0_10:=s0_9.after hb_10;clear s0_9;have by0_10:=by0_9.after hb_10;clear by0_9;have s1_10:=s1_9.after hb_10;clear s1_9;have cbx0_10:=bx0_10.1;clear cbx0_9;have cby0_10:=by0_10.1;clear cby0_9;clear hb_10;go_wp2_with fail
 go_region_held3 (fun w'=>w'.cell? ⟨w7.heap.size,0,none⟩=some (.slice (some ⟨g7,0,none⟩) n0 n0)∧w'.cell? ⟨w.heap.size,0,none⟩=some (.slice A0 n0 c0)) (first | exact ⟨cby0_10,cbx0_10⟩ | exact ⟨dy0_1,dx0_1⟩ | exact ⟨dy0_2,dx0_2⟩) ((first | (go_at_call 12; refine (toArch_any A0 n0 c0 z0 _ (by exact a0_10) hn0).mono ?_; rintro e w11 ⟨g11,rfl,_,r_11,hbx11⟩; have hb_11:=below_undrew hbx11; have e0_1:=s0_10.after hb_11; have v0_1:=recsAt_row r_11 a0_.1 (fun k _=>rfl); have dy0_1:=(by0_10.after hb_11).1; have dx0_1:=(bx0_10.after hb_11).1) | (go_at_call 15; refine (eqArch_same _ _ _ _ _ z0 _ (by exact e0_1) (by exact v0_1) hn0).mono ?_; rintro e w12 ⟨rfl,hb_12⟩; have dy0_2:=((by0_10.after hb_11).after hb_12).1; have dx0_2:=((bx0_10.after hb_11).after hb_12).1)));have b_11:=below_then b_10 hb_11;clear b_10;have a0_11:=a0_10.after hb_11;clear a0_10;have a1_11:=a1_10.after hb_11;clear a1_10;have bx0_11:=bx0_10.after hb_11;clear bx0_10;have s0_11:=s0_10.after hb_11;clear s0_10;have by0_11:=by0_10.after hb_11;clear by0_10;have s1_11:=s1_10.after hb_11;clear s1_10;have cbx0_11:=bx0_11.1;clear cbx0_10;have cby0_11:=by0_11.1;clear cby0_10;have b_12:=below_then b_11 hb_12;clear b_11;have a0_12:=a0_11.after hb_12;clear a0_11;have a1_12:=a1_11.after hb_12;clear a1_11;have bx0_12:=bx0_11.after hb_12;clear bx0_11;have s0_12:=s0_11.after hb_12;clear s0_11;have by0_12:=by0_11.after hb_12;clear by0_11;have s1_12:=s1_11.after hb_12;clear s1_11;have cbx0_12:=bx0_12.1;clear cbx0_11;have cby0_12:=by0_12.1;clear cby0_11;clear hb_11 hb_12;go_wp2_with fail
 refine (toLoadS_ex A1 n1 c1 z1 _ a1_12 hn1).mono ?_;rintro e w13 ⟨g13,rfl,_,r_13,hb_13⟩;have b_13:=below_then b_12 hb_13;clear b_12;have a0_13:=a0_12.after hb_13;clear a0_12;have a1_13:=a1_12.after hb_13;clear a1_12;have bx0_13:=bx0_12.after hb_13;clear bx0_12;have s0_13:=s0_12.after hb_13;clear s0_12;have by0_13:=by0_12.after hb_13;clear by0_12;have s1_13:=s1_12.after hb_13;clear s1_12;have cbx0_13:=bx0_13.1;clear cbx0_12;have cby0_13:=by0_13.1;clear cby0_12;have t1_13:=recsAt_row r_13 a1_.1 (fun k _=>rfl);clear r_13 hb_13;go_wp2_with fail
 refine (eqLoadS_same _ _ _ _ _ z1 _ s1_13 t1_13 hn1).mono ?_;rintro e w14 ⟨rfl,hb_14⟩;have b_14:=below_then b_13 hb_14;clear b_13;have a0_14:=a0_13.after hb_14;clear a0_13;have a1_14:=a1_13.after hb_14;clear a1_13;have bx0_14:=bx0_13.after hb_14;clear bx0_13;have s0_14:=s0_13.after hb_14;clear s0_13;have by0_14:=by0_13.after hb_14;clear by0_13;have s1_14:=s1_13.after hb_14;clear s1_13;have t1_14:=t1_13.after hb_14;clear t1_13;have cbx0_14:=bx0_14.1;clear cbx0_13;have cby0_14:=by0_14.1;clear cby0_13;clear hb_14;go_wp2;go_ret;exact ⟨rfl,b_14⟩
end X
end Go.Proofs.YtodneggnnipcnaaGreat
