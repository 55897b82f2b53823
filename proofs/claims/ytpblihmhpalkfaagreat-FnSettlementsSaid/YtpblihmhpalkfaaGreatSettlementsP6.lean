/-
  Texts that the law stands on, part 6.
-/
import Derived.Test.YtpblihmhpalkfaaGreatSettlementsP4
import Derived.Test.YtpblihmhpalkfaaGreatSettlementsP5
import Derived.Test.YtpblihmhpalkfaaGreatJ17
set_option maxRecDepth 100000
set_option linter.unusedVariables false
set_option linter.unusedSimpArgs false
namespace Go.Proofs.YtpblihmhpalkfaaGreat
namespace X
open Go.RowKit Go.Maps
theorem lawIntJ:Keyed Tryzx.prog 3:=int_keyed Tryzx.underlying3
theorem wf_inJ {x:Int} (h : -9223372036854775808≤x∧x≤9223372036854775807):(Lit.int .i64 x).wf=true:=by
 simp [Lit.wf,IntKind.min,IntKind.max,IntKind.signed,IntKind.bits];omega
section
variable (A : Option Addr) (m c : Nat) (js : List Int) (w : World) (h : HngAt w A m js) (hm : m ≤ 1048576) (hj : ∀ i, i < m → 0 ≤ nth js i ∧ nth js i ≤ 1048576)
include h hm hj
set_option maxRecDepth 100000 in
set_option maxHeartbeats 3200000 in
theorem iJts_any:Calls Tryzx.prog 73 #[.slice A m c] w fun e w'=>e = .returned (.int .i64 (dcnt js m:Nat))∧Below w.heap.size w w':=by
 have HH:=Lib.hid h;have hmm := @run_makeMap Tryzx.prog;clear h;go_enter Tryzx.func73,Tryz.ntmps73;go_wp2;go_loopw [9] (fun v9 wr=>∃ (k:Nat) (D:DataW Unit),v9 = .int .i64 k∧k≤m∧Hid (wr.ownsMap Tryzx.prog 3 (plainElem Tryzx.prog 4) w.heap.size k D)∧Hid (JMap D js k)∧Hid (Below w.heap.size w wr)) (fun v9 _=>m - (intOf v9).toNat)
 case atStart=>exact ⟨0,.map [],rfl,Nat.zero_le _,Lib.hid (World.ownsMap_made w Tryzx.prog 3 _),Lib.hid (jmap_0 js),Lib.hid ((Below.refl _ _).alloc (Nat.le_refl _) _)⟩
 case round =>
  clear hmm;obtain ⟨k,D,rfl,hk,HO,HJ,HB⟩:=hrel;by_cases hlt:k<m
  ·have ki:(k:Int)<(m:Int):=by omega
   have k0:(0:Int)≤(k:Int):=by omega
   have i1:IntKind.i64.wrap ((k:Int)+1)=(k:Int)+1:=IntWalk.i64_in _ (by omega);obtain ⟨b,off,rfl,hbl,hc⟩:=HH.out (by omega);obtain ⟨hc1,o,hc2⟩:=hc k hlt;have x0:wr.cell? ⟨b,off+k*2,none⟩=some (.int .i64 (nth js k)):=(HB.out.cell (p:=⟨b,off+k*2,none⟩) hbl).trans hc1;have x1:wr.cell? ⟨b,off+k*2+1,none⟩=some (.bool o):=(HB.out.cell (p:=⟨b,off+k*2+1,none⟩) hbl).trans hc2;have hz:=HB.out.size;have y0:(wr.alloc (.cells #[.int .i64 (nth js k),.bool o] 60)).cell? ⟨wr.heap.size,0,none⟩=some (.int .i64 (nth js k)):=(cell_newH _ _ _ _).1;have y1:(wr.alloc (.cells #[.int .i64 (nth js k),.bool o] 60)).cell? ⟨wr.heap.size,1,none⟩=some (.bool o):=(cell_newH _ _ _ _).2;have HO2:=Lib.hid (HO.out.alloc (.cells #[.int .i64 (nth js k),.bool o] 60));have HB2:=Lib.hid (HB.out.alloc hz (.cells #[.int .i64 (nth js k),.bool o] 60));have HJ2:Hid (JMap (D.put (keyJ (nth js k)) (.lit (.bool true))) js (k+1)):=Lib.hid (jmap_put HJ.out (HO.out.tidy lawIntJ) _);clear hc hc1 hc2;have hkey:keyOf Tryzx.prog 3 (.int .i64 (nth js k))=some (keyJ (nth js k)):=keyOf_int_mk Tryzx.underlying3 (wf_inJ (x:=nth js k) (by have:=hj k hlt; omega))
   go_wp2_with (at_mapUpdate; refine wpList_mapUpdate_own _ rfl (.tmp 13) (.tmp 15) (.const (.bool true)) 146 rfl 3 4 lawIntJ Tryzx.underlying146 (plainElem Tryzx.prog 4) w.heap.size k D rfl (by exact HO2.out) (by unfold maxLen; omega) (.int .i64 (nth js k)) (.bool true) (keyJ (nth js k)) rfl rfl hkey (.lit (.bool true)) [] (plainElem_bool Tryzx.underlying4 true) ?_; intro w3 hown3 hgr3);have HO3:=Lib.hid hown3;have HB3:=Lib.hid (HB2.out.grown hgr3 (by simp; omega) (fun j hj=>by cases hj; exact Nat.le_refl _));clear hown3 hgr3 hkey x0 x1 y0 y1;go_wp2;go_roundw
   case rel=>exact ⟨k+1,_,by go_num,by omega,HO3,HJ2,HB3⟩
   case measure=>simp [intOf]; omega
  ·obtain rfl:m=k:=by omega
   have hs:=HJ.out.2;go_wp2_with (at_len; refine wpList_len_own _ rfl (.tmp 17) 146 rfl 3 4 Tryzx.underlying146 (plainElem Tryzx.prog 4) w.heap.size m D rfl (by exact HO.out) ?_);go_ret;exact ⟨rfl,HB.out⟩
end
end X
namespace X
open Go.RowKit
theorem setQ (zs:List Int) (n:Nat) (ls:List Int) (q:Nat):∃ t:Int × Int × Int × Int × Bool,setV zs n ls q 1 = .tuple #[.agg #[.int .i64 t.1,.int .i64 t.2.1,.int .i64 t.2.2.1,.int .i64 t.2.2.2.1],.bool t.2.2.2.2]:=by
 obtain ⟨a,b,c,d,e,h⟩:=setV_ex zs n ls q 1;exact ⟨(a,b,c,d,e),h⟩
noncomputable def movJ (zs:List Int) (n:Nat) (ls:List Int) (q:Nat) (a b c d:Int):Nat:=dcnt (hjs (hgJ zs n ls q a b c d)) (hgJ zs n ls q a b c d).length
noncomputable def movB (zs:List Int) (n:Nat) (ls:List Int) (q:Nat):Bool :=
 (setQ zs n ls q).choose.2.2.2.2 && decide ((3:Int)≤(movJ zs n ls q (setQ zs n ls q).choose.1 (setQ zs n ls q).choose.2.1 (setQ zs n ls q).choose.2.2.1 (setQ zs n ls q).choose.2.2.2.1:Nat))
theorem mov_ex (zs:List Int) (n:Nat) (ls:List Int) (q:Nat):∃ a b c d e,setV zs n ls q 1 = .tuple #[.agg #[.int .i64 a,.int .i64 b,.int .i64 c,.int .i64 d],.bool e]∧movB zs n ls q=(e && decide ((3:Int)≤(movJ zs n ls q a b c d:Nat))) :=
 ⟨_,_,_,_,_,(setQ zs n ls q).choose_spec,rfl⟩
section
variable (A : Option Addr) (n c : Nat) (zs : List Int) (B : Option Addr) (q d : Nat) (ls : List Int) (w : World) (h : RecsAt w w.heap.size 4 A n zs) (hn : n ≤ 1048576) (hl : RecsAt w w.heap.size 3 B q ls) (hq : q ≤ 1048576)
include h hn hl hq
set_option maxRecDepth 100000 in
set_option maxHeartbeats 3200000 in
theorem iMoves_any:Calls Tryzx.prog 34 #[.agg #[.slice A n c],.slice B q d] w fun e w'=>e = .returned (.bool (movB zs n ls q))∧Below w.heap.size w w':=by
 have b0:Below w.heap.size w (w.alloc (.cells #[.slice A n c] 26)):=(Below.refl _ _).alloc (Nat.le_refl _) _;have HX:Hid (Box (w.alloc (.cells #[.slice A n c] 26)) w.heap.size (.slice A n c)):=Lib.hid (Box.new _ _ _);have h1:=h.after b0;have l1:=hl.after b0;have HB0:=Lib.hid b0;have HH:=Lib.hid h;have HL:=Lib.hid hl;have cx0:=HX.out.1;obtain ⟨t0,t1,t2,t3,bb,hE,hM⟩:=mov_ex zs n ls q;have HM:=Lib.hid hM;clear h hl b0 hM;go_enter Tryzx.func34,Tryz.ntmps34;go_wp2_with fail
 refine (iSettle_any _ _ _ zs _ _ _ ls 1 _ (by exact h1) hn (by exact l1) hq).mono ?_;rintro e w1 ⟨rfl,hb1⟩;rw [hE];have HB1:=Lib.hid (below_then HB0.out hb1);have HX1:=Lib.hid (HX.out.after hb1);clear hb1 cx0 HX HB0 h1 l1 hE;have cx1:=HX1.out.1;have hz1:=HB1.out.size;cases bb
 ·have HF:Hid (movB zs n ls q=false):=Lib.hid (by rw [HM.out]; rfl)
  clear HM;have HBB:=Lib.hid (HB1.out.alloc hz1 (.cells #[.int .i64 t0,.int .i64 t1,.int .i64 t2,.int .i64 t3] 31));go_wp2;go_ret;exact ⟨by rw [HF.out]; rfl,HBB.out⟩
 ·have HF:Hid (movB zs n ls q=decide ((3:Int)≤(movJ zs n ls q t0 t1 t2 t3:Nat))):=Lib.hid (by rw [HM.out]; rfl)
  clear HM;have hnew:=Box4.new w1 t0 t1 t2 t3 31;have HBB:=Lib.hid (HB1.out.alloc hz1 (.cells #[.int .i64 t0,.int .i64 t1,.int .i64 t2,.int .i64 t3] 31));have hbx:Below w1.heap.size w1 (w1.alloc (.cells #[.int .i64 t0,.int .i64 t1,.int .i64 t2,.int .i64 t3] 31)):=(Below.refl _ _).alloc (Nat.le_refl _) _;have HXX:=Lib.hid (HX1.out.after hbx);have cxx:=HXX.out.1;have t0':=hnew.1.1;have t1':=hnew.1.2.1;have t2':=hnew.1.2.2.1;have t3':=hnew.1.2.2.2;have r1:=HH.out.after HBB.out;have r2:=HL.out.after HBB.out;clear hnew hbx;go_wp2_with fail
  refine (iHng_any _ _ _ zs _ _ _ ls _ _ _ _ _ (by exact r1) hn (by exact r2) hq).mono ?_;rintro e w2 ⟨A2,c2,rfl,h2,hb2⟩;have HB2:=Lib.hid (below_then HBB.out hb2);have hi:=hgJ_in zs n ls q t0 t1 t2 t3;clear hb2 r1 r2 cxx cx1 t0' t1' t2' t3';go_wp2_with fail
  refine (iJts_any _ _ _ _ _ (by exact h2) hi.1 hi.2).mono ?_;rintro e w3 ⟨rfl,hb3⟩;have HB3:=Lib.hid (below_then HB2.out hb3);clear hb3 h2;go_wp2;go_ret;exact ⟨by rw [HF.out]; rfl,HB3.out⟩
end
end X
end Go.Proofs.YtpblihmhpalkfaaGreat
