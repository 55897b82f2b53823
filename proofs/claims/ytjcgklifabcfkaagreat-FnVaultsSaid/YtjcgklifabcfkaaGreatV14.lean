/-
  Texts that the law stands on, part 14.
-/
import Derived.Test.YtjcgklifabcfkaaGreatV1
import Derived.Test.YtjcgklifabcfkaaGreatV11
import Derived.Test.YtjcgklifabcfkaaGreatV12
import Derived.Test.YtjcgklifabcfkaaGreatV13
import Derived.Test.YtjcgklifabcfkaaGreatV4
import Derived.Test.YtjcgklifabcfkaaGreatV5
set_option maxRecDepth 100000
set_option linter.unusedVariables false
set_option linter.unusedSimpArgs false
namespace Go.Proofs.YtjcgklifabcfkaaGreat
section
open Go.RowKit
set_option maxHeartbeats 6400000 in
theorem iCf_any (A:Option Addr) (n c i:Nat) (rs:List Int) (w:World) (h:RecsAt w w.heap.size 4 A n rs) (hn:n≤20) (hi:i<n) :
  Calls Tryz.prog 108 #[.slice A n c,.int .i64 i] w fun e w'=>∃ v q,e = .returned v∧OwnZ w' w.heap.size 66 4 v q (cfI rs n i)∧Below w.heap.size w w':=by
 have HL:=Lib.hid h;clear h;have ei:IntKind.i64.wrap ((i:Int)+1)=(i:Int)+1:=IntWalk.i64_in _ (by omega);have HI1:Hid (cfI rs n i=cfK rs n i [] (n - (i+1))):=Lib.hid rfl;go_enter Tryz.func108,Tryz.ntmps108;go_wp2;go_loopw [5,6] (fun v5 v6 wr=>∃ t q:Nat,i+1+t≤n∧v6 = .int .i64 ((i:Int)+1+t)∧Hid (CorAcc (cfK rs n i [] t) q (20*t))∧Hid (OwnZ wr w.heap.size 66 4 v5 q (cfK rs n i [] t))∧Hid (Below w.heap.size w wr)) (fun _ v6 _=>n - (intOf v6).toNat)
 case atStart=>exact ⟨0,0,by omega,by simp,Lib.hid ⟨rfl,Nat.le_refl _⟩,Lib.hid (OwnZ.nil _ _ _ _),Lib.hid (Below.refl _ _)⟩
 case round =>
  obtain ⟨t,q,hk,rfl,HA,HO,HB⟩:=hrel;by_cases hlk:i+1+t<n
  ·have HK1:=Lib.hid (show cfK rs n i [] (t+1)=cfM rs n i (i+1+t) (cfK rs n i [] t) (n - (i+1+t+1)) from cfK_s i [] t)
   obtain ⟨a3,ha3⟩:∃ a,cfK rs n i [] t=a:=⟨_,rfl⟩;rw [ha3] at HA HO HK1;obtain ⟨k,ek⟩:∃ k,i+1+t=k:=⟨_,rfl⟩;have ek':(i:Int)+1+(t:Int)=(k:Int):=by omega
   rw [ek] at HK1 hlk;rw [ek'];have kk:(k:Int)<(n:Int):=by omega
   have ekk:IntKind.i64.wrap ((k:Int)+1)=(k:Int)+1:=IntWalk.i64_in _ (by omega);clear ha3;go_wp2;go_loopw [5,7] (fun v5 v7 wr=>∃ j q:Nat,k+1+j≤n∧v7 = .int .i64 ((k:Int)+1+j)∧Hid (CorAcc (cfM rs n i k a3 j) q (20*t+j))∧Hid (OwnZ wr w.heap.size 66 4 v5 q (cfM rs n i k a3 j))∧Hid (Below w.heap.size w wr)) (fun _ v7 _=>n - (intOf v7).toNat)
   case atStart=>exact ⟨0,q,by omega,by simp,HA,HO,HB⟩
   case round =>
    clear HA HO HB;obtain ⟨j,q,hm,rfl,HA,HO,HB⟩:=hrel;by_cases hlm:k+1+j<n
    ·have HM1:=Lib.hid (show cfM rs n i k a3 (j+1)=cfStep rs n i k (k+1+j) (cfM rs n i k a3 j) from cfM_s i k a3 j)
     obtain ⟨a4,ha4⟩:∃ a,cfM rs n i k a3 j=a:=⟨_,rfl⟩;rw [ha4] at HA HO HM1;obtain ⟨m,em⟩:∃ m,k+1+j=m:=⟨_,rfl⟩;have em':(k:Int)+1+(j:Int)=(m:Int):=by omega
     rw [em] at HM1 hlm;rw [em'];have mm:(m:Int)<(n:Int):=by omega
     have emm:IntKind.i64.wrap ((m:Int)+1)=(m:Int)+1:=IntWalk.i64_in _ (by omega);clear ha4;obtain ⟨b,off,rfl,hbB,hc⟩:=HL.out.2 (by omega);have hc':∀ x,x<n*4→wr.cell? ⟨b,off+x,none⟩=some (.int .i64 (nth rs x)):=fun x hx=>(HB.out.cell (by exact hbB)).trans (hc x hx)
     obtain ⟨x0,x1,x2,x3⟩:=rwCells hc' hi;obtain ⟨y0,y1,y2,y3⟩:=rwCells hc' hlk;obtain ⟨z0,z1,z2,z3⟩:=rwCells hc' hlm;clear hc hc';have hbk:b<wr.heap.size:=Nat.lt_of_lt_of_le hbB HB.out.size;obtain ⟨H,V,M,D,B,hcf,hve⟩:=cf_names rs n i k m a4;have HRR:=Lib.hid (HL.out.after HB.out);generalize nth rs (i*4)=pa at *
     generalize nth rs (i*4+1)=pb at *
     generalize nth rs (i*4+2)=pc at *
     generalize nth rs (i*4+3)=pd at *
     generalize nth rs (k*4)=qa at *
     generalize nth rs (k*4+1)=qb at *
     generalize nth rs (k*4+2)=qc at *
     generalize nth rs (k*4+3)=qd at *
     generalize nth rs (m*4)=ra at *
     generalize nth rs (m*4+1)=rb at *
     generalize nth rs (m*4+2)=rc at *
     generalize nth rs (m*4+3)=rd at *
     have HVE:=Lib.hid hve;have HCF:=Lib.hid hcf;clear hve hcf;obtain ⟨wk,rfl⟩:∃ wk:World,wk=wr:=⟨_,rfl⟩;have ii:(i:Int)<(n:Int):=by omega
     go_upto_region 8 with fail
     go_cut [8,9] (fun s8 s9 wx=>∃ g:Nat,s8 = .pointer (some ⟨g,0,none⟩)∧s9 = .bool B∧wk.heap.size≤g∧Hid (Box4 wx g H V M D)∧Hid (Below wk.heap.size wk wx))
     case first =>
      refine wp_region_held_drew (S:=fun w'=>(w'.cell? ⟨b,off+i*4,none⟩=some (.int .i64 pa)∧w'.cell? ⟨b,off+i*4+1,none⟩=some (.int .i64 pb)∧w'.cell? ⟨b,off+i*4+2,none⟩=some (.int .i64 pc)∧w'.cell? ⟨b,off+i*4+3,none⟩=some (.int .i64 pd))∧(w'.cell? ⟨b,off+k*4,none⟩=some (.int .i64 qa)∧w'.cell? ⟨b,off+k*4+1,none⟩=some (.int .i64 qb)∧w'.cell? ⟨b,off+k*4+2,none⟩=some (.int .i64 qc)∧w'.cell? ⟨b,off+k*4+3,none⟩=some (.int .i64 qd))∧(w'.cell? ⟨b,off+m*4,none⟩=some (.int .i64 ra)∧w'.cell? ⟨b,off+m*4+1,none⟩=some (.int .i64 rb)∧w'.cell? ⟨b,off+m*4+2,none⟩=some (.int .i64 rc)∧w'.cell? ⟨b,off+m*4+3,none⟩=some (.int .i64 rd))) (by kernel_rfl) (by exact ⟨⟨x0,x1,x2,x3⟩,⟨y0,y1,y2,y3⟩,⟨z0,z1,z2,z3⟩⟩) (fun hHeld => ?_);refine take_heldS (i:=0) (d:=27) rfl rfl ?_;try simp only [Act.put,ly3]
      refine take_heldS (i:=1) (d:=28) rfl rfl ?_;try simp only [Act.put,ly3]
      refine take_heldS (i:=2) (d:=29) rfl rfl ?_;try simp only [Act.put,ly3]
      refine take_heldS (i:=3) (d:=30) rfl rfl ?_;try simp only [Act.put,ly3]
      refine take_heldS (i:=4) (d:=31) rfl rfl ?_;try simp only [Act.put,ly3]
      refine take_heldS (i:=5) (d:=32) rfl rfl ?_;try simp only [Act.put,ly3]
      refine take_heldS (i:=6) (d:=33) rfl rfl ?_;try simp only [Act.put,ly3]
      refine take_heldS (i:=7) (d:=34) rfl rfl ?_;try simp only [Act.put,ly3]
      refine take_heldS (i:=8) (d:=35) rfl rfl ?_;try simp only [Act.put,ly3]
      refine take_heldS (i:=9) (d:=36) rfl rfl ?_;try simp only [Act.put,ly3]
      refine take_heldS (i:=10) (d:=37) rfl rfl ?_;try simp only [Act.put,ly3]
      refine take_heldS (i:=11) (d:=38) rfl rfl ?_;try simp only [Act.put,ly3]
      refine wpAnyH_ready (rs := [12,16]) (by kernel_rfl) (by simp) ?_;refine AllReadyH.cons rfl (fun K hK => ?_) (AllReadyH.cons rfl (fun K hK => ?_) AllReadyH.nil)
      ·go_simp
       (with_reducible refine (iSolve_any _ _ _ _ _ _ _ _ _ _ _ _ _).mono ?_)
       rintro e w1 ⟨rfl,hb1⟩;rw [HVE.out,thrV];refine hK.out _ _ (by exact keep12 (by assumption) (fun x=>hb1.cell (p:=⟨b,x,none⟩) (by first | exact hbk | (simp; omega)))) (fun hHeld => ?_)
       clear hK K;try simp only [Act.put,ly3]
       refine take_heldS (i:=13) (d:=26) rfl rfl ?_;try simp only [Act.put,ly3]
       refine take_heldS (i:=14) (d:=40) rfl rfl ?_;try simp only [Act.put,ly3]
       refine take_heldS (i:=15) (d:=41) rfl rfl ?_;try simp only [Act.put,ly3]
       refine wpAnyH_ready (rs := [16]) (by kernel_rfl) (by simp) ?_;refine AllReadyH.cons rfl (fun K hK => ?_) AllReadyH.nil;go_simp
       refine hK.out _ _ (by exact keep12 (by assumption) (fun x=>cell_alloc_lt (by have:=hb1.size; simp at this; omega))) (fun hHeld => ?_)
       clear hK K;try simp only [Act.put,ly3]
       refine wpAnyH_ready (rs := [17]) (by kernel_rfl) (by simp) ?_;refine AllReadyH.cons rfl (fun K hK => ?_) AllReadyH.nil;go_simp
       refine hK.out _ _ (by exact keep12 (by assumption) (fun x=>(cell_alloc_lt (by have:=hb1.size; simp at this; omega)).trans (cell_alloc_lt (by have:=hb1.size; simp at this; omega)).symm)) (fun hHeld => ?_)
       clear hK K;try simp only [Act.put,ly3]
       refine take_heldS (i:=18) (d:=9) rfl rfl ?_;try simp only [Act.put,ly3]
       refine wpAnyH_done (by kernel_rfl) ?_ _;go_wp2_with fail
       go_meet
       have hz1:=hb1.size;simp at hz1;exact ⟨w1.heap.size,rfl,rfl,by omega,Lib.hid (Box4.new _ _ _ _ _ _),Lib.hid (((below_drewN (Below.refl wk.heap.size wk) 1).trans (hb1.mono (by simp))).alloc (by omega) _)⟩
      ·go_simp
       refine hK.out _ _ (by exact keep12 (by assumption) (fun x=>cell_alloc_lt (by exact hbk))) (fun hHeld => ?_);clear hK K;try simp only [Act.put,ly3]
       refine wpAnyH_ready (rs := [12]) (by kernel_rfl) (by simp) ?_;refine AllReadyH.cons rfl (fun K hK => ?_) AllReadyH.nil;go_simp
       (with_reducible refine (iSolve_any _ _ _ _ _ _ _ _ _ _ _ _ _).mono ?_)
       rintro e w1 ⟨rfl,hb1⟩;rw [HVE.out,thrV];have HVW:Hid (RowF w1 wk.heap.size 66 4 (fun _ => .int .i64 0)):=Lib.hid ((show RowF _ wk.heap.size 66 4 (fun _ => .int .i64 0) from RowF.of_row (World.rowIs_alloc wk.drew #[.int .i64 0,.int .i64 0,.int .i64 0,.int .i64 0] 66 (fun _ => .int .i64 0) (fun i hi=>by simp at hi; match i,hi with | 0,_=>rfl | 1,_=>rfl | 2,_=>rfl | 3,_=>rfl))).after hb1)
       refine hK.out _ _ (by exact keep12 (by assumption) (fun x=>hb1.cell (p:=⟨b,x,none⟩) (by simp; omega))) (fun hHeld => ?_)
       clear hK K;try simp only [Act.put,ly3]
       refine take_heldS (i:=13) (d:=26) rfl rfl ?_;try simp only [Act.put,ly3]
       refine take_heldS (i:=14) (d:=40) rfl rfl ?_;try simp only [Act.put,ly3]
       refine take_heldS (i:=15) (d:=41) rfl rfl ?_;try simp only [Act.put,ly3]
       have u0:w1.cell? ⟨wk.heap.size,0,none⟩=some (.int .i64 0):=HVW.out.cell (i:=0) (by omega);have u1:w1.cell? ⟨wk.heap.size,1,none⟩=some (.int .i64 0):=HVW.out.cell (i:=1) (by omega);have u2:w1.cell? ⟨wk.heap.size,2,none⟩=some (.int .i64 0):=HVW.out.cell (i:=2) (by omega);have u3:w1.cell? ⟨wk.heap.size,3,none⟩=some (.int .i64 0):=HVW.out.cell (i:=3) (by omega);have f0:=HVW.out.frozen 0;have f1:=HVW.out.frozen 1;have f2:=HVW.out.frozen 2;have f3:=HVW.out.frozen 3;have hs:=RowF.lt HVW.out;have hz1:=hb1.size;simp at hz1;refine wpAnyH_ready (rs := [17]) (by kernel_rfl) (by simp) ?_;refine AllReadyH.cons rfl (fun K hK => ?_) AllReadyH.nil;go_simp
       refine hK.out _ _ (by exact keep12 (by assumption) (fun x=>(World.cell?_setCell_far _ _ _ _ (by first | (simp; done) | (simp; omega) | omega)).trans ((World.cell?_setCell_far _ _ _ _ (by first | (simp; done) | (simp; omega) | omega)).trans ((World.cell?_setCell_far _ _ _ _ (by first | (simp; done) | (simp; omega) | omega)).trans ((World.cell?_setCell_far _ _ _ _ (by first | (simp; done) | (simp; omega) | omega)).trans (rfl)))))) (fun hHeld => ?_)
       clear hK K;try simp only [Act.put,ly3]
       refine take_heldS (i:=18) (d:=9) rfl rfl ?_;try simp only [Act.put,ly3]
       refine wpAnyH_done (by kernel_rfl) ?_ _;go_wp2_with fail
       go_meet
       have HV4:=Lib.hid (((HVW.out.set 0 (.int .i64 H)).set 1 (.int .i64 V)).set 2 (.int .i64 M) |>.set 3 (.int .i64 D));exact ⟨wk.heap.size,rfl,rfl,Nat.le_refl _,Lib.hid ⟨⟨HV4.out.cell (i:=0) (by omega),HV4.out.cell (i:=1) (by omega),HV4.out.cell (i:=2) (by omega),HV4.out.cell (i:=3) (by omega)⟩,by simpa using hs⟩,Lib.hid (below_set4 (((below_drewN (Below.refl wk.heap.size wk) 1).alloc (Nat.le_refl _) _).trans (hb1.mono (by simp))) (Nat.le_refl _) _ _ _ _)⟩
     case rest =>
     obtain ⟨g,rfl,rfl,hg,HBX,HBW⟩:=hcut;have HOC:=Lib.hid (HO.out.below HBW.out);have HBC:=Lib.hid (below_then HB.out HBW.out);have HRC:=Lib.hid (HRR.out.after HBW.out);clear x0 x1 x2 x3 y0 y1 y2 y3 z0 z1 z2 z3 HVE HO HB HBW hbk HRR;cases B
     ·have HEQ:=Lib.hid (HCF.out.no rfl)
      have HAX:Hid (CorAcc (cfM rs n i k a3 (j+1)) q (20*t+(j+1))):=by rw [HM1.out,HEQ.out]; exact Lib.hid ⟨HA.out.len,by have:=HA.out.few; omega⟩
      have HOX:=HOC;rw [← HM1.out.trans HEQ.out] at HOX;go_wp2;go_roundw
      case rel=>exact ⟨j+1,q,by omega,by go_num,HAX,HOX,HBC⟩
      case measure=>simp [intOf]; omega
     obtain ⟨A3,c3,rfl,hc3⟩:=HOC.out.slice;obtain ⟨t0,t1,t2,t3⟩:=HBX.out.1;have hq8:q≤8000:=by have:=HA.out.few; omega
     go_wp2_with fail
     refine (iFulfillsAll_any _ _ _ rs _ _ _ _ _ HRC.out (by omega)).mono ?_;rintro e w1 ⟨rfl,hb1⟩;have HO1:=Lib.hid (HOC.out.below hb1);have HB1:=Lib.hid (below_then HBC.out hb1);have HX1:=Lib.hid (HBX.out.after hb1);clear t0 t1 t2 t3 hb1 HOC HBC HBX HRC;cases hh:fulAll rs n H V M D
     ·have HEQ:=Lib.hid (HCF.out.all0 hh)
      clear hh;have HAX:Hid (CorAcc (cfM rs n i k a3 (j+1)) q (20*t+(j+1))):=by rw [HM1.out,HEQ.out]; exact Lib.hid ⟨HA.out.len,by have:=HA.out.few; omega⟩
      have HOX:=HO1;rw [← HM1.out.trans HEQ.out] at HOX;go_wp2;go_roundw
      case rel=>exact ⟨j+1,q,by omega,by go_num,HAX,HOX,HB1⟩
      case measure=>simp [intOf]; omega
     have HEQ:=Lib.hid (HCF.out.yes rfl hh);clear hh;obtain ⟨t0,t1,t2,t3⟩:=HX1.out.1;have hcn:∀ y,y<1*4→(w1.alloc (.cells #[.int .i64 H,.int .i64 V,.int .i64 M,.int .i64 D] 66)).cell? ⟨w1.heap.size,y,none⟩=some (.int .i64 (nth [H,V,M,D] y)):=fun y hy =>
      World.rowIs.cell (World.rowIs_alloc w1 #[.int .i64 H,.int .i64 V,.int .i64 M,.int .i64 D] 66 (ints [H,V,M,D]) (fun i hi=>by simp at hi; match i,hi with | 0,_=>rfl | 1,_=>rfl | 2,_=>rfl | 3,_=>rfl)) (by simpa using hy)
     have HCN:=Lib.hid hcn;have HBA:=Lib.hid (HB1.out.alloc HB1.out.size (.cells #[.int .i64 H,.int .i64 V,.int .i64 M,.int .i64 D] 66));have hW0:w.heap.size≤(w1.alloc (.cells #[.int .i64 H,.int .i64 V,.int .i64 M,.int .i64 D] 66)).heap.size:=HBA.out.size;have HXX:Hid (a4 ++ [H,V,M,D]=cfM rs n i k a3 (j+1)):=Lib.hid (by rw [HM1.out,HEQ.out]);have HAX:Hid (CorAcc (cfM rs n i k a3 (j+1)) (q+1) (20*t+(j+1))):=by rw [HM1.out,HEQ.out]; exact Lib.hid ⟨by simp [HA.out.len]; omega,by have:=HA.out.few; omega⟩
     clear hcn;go_wp2_with (at_builtin; refine wpList_appZ _ rfl (.tmp 48) (.tmp 50) 71 rfl w.heap.size 66 4 32 #[.int .i64 0,.int .i64 0,.int .i64 0,.int .i64 0] Tryz.underlying71 infoThr rfl zz4 (by decide) (by decide) _ q a4 rfl (by exact HO1.out.alloc _) w1.heap.size 1 1 [H,V,M,D] rfl rfl (by exact HCN.out) (by omega) w.heap.size w (by exact HBA.out) (Nat.le_refl _) hW0 _ HXX.out ?_ (by omega); intro g' cap' w7 hown7 hb7; have HO7:=Lib.hid hown7; have HB7:=Lib.hid hb7);go_roundw
     case rel=>exact ⟨j+1,q+1,by omega,by go_num,HAX,HO7,HB7⟩
     case measure=>simp [intOf]; omega
    ·have hj:j=n - (k+1):=by omega
     have nn:¬ ((k:Int)+1+(j:Int))<(n:Int):=by omega
     have HA1:Hid (CorAcc (cfK rs n i [] (t+1)) q (20*(t+1))):=by rw [HK1.out,← hj]; exact Lib.hid ⟨HA.out.len,by have:=HA.out.few; omega⟩
     have HO1:=HO;rw [hj,← HK1.out] at HO1;go_wp2;go_roundw
     case rel=>exact ⟨t+1,q,by omega,by go_num,HA1,HO1,HB⟩
     case measure=>simp [intOf]; omega
  ·have ht:t=n - (i+1):=by omega
   have nn:¬ ((i:Int)+1+(t:Int))<(n:Int):=by omega
   have HO1:=HO;rw [ht,← HI1.out] at HO1;go_wp2;go_ret;exact ⟨_,rfl,⟨q,HO1.out⟩,HB.out⟩
end
namespace Rn
open Go.Conc Go.RowKit
open Go.ConcN (WgLive PayAt Has)
open Go.ConcR (KK WgAt Payload)
theorem emptyWR {noT:TypeId} {off:Nat} {v:World} (hno:Tryz.prog.toTables.info? noT=none) (hG:Tryz.prog.globals.size≤v.heap.size):WR (pctx noT off) (fun _ _=>False) (winWorld v Tryz.prog.globals.size #[] noT) v where
 lt:=fun a b h=>h.elim
 fn:=fun a b b' h=>h.elim
 inj:=fun a a' b h=>h.elim
 obj:=fun a b h=>h.elim
 win:=fun a b h=>h.elim
 winG:=fun a b h=>h.elim
 glob:=fun a b h=>h.elim
 big:=⟨by show Tryz.prog.globals.size≤_; simp [winWorld],hG⟩
 shz:=by intro a h; show (if a=Tryz.prog.globals.size then off else 0)=0; exact if_neg (fun e=>h e)
 roLt:=by intro a h; subst h; simp [winWorld]
 noInfo:=hno
theorem pro_way0 {noT : TypeId} (hno : Tryz.prog.toTables.info? noT = none) {w : World} (cf : Frame) (cs : List Frame) (c : Nat) (hG : Tryz.prog.globals.size ≤ w.heap.size) :
  WayG Tryz.prog true (fun own => Stays (fun b => own b ∨ False)) (fun own => Did own (fun _ => False)) (fun _ g _ => g = G (cf.finish (.slice none 0 0)) cs) (fun _ => False) (G (Frame.enter Tryz.prog 87 #[.slice none 0 c] .normal) (cf :: cs)) w := by
 have hWR := emptyWR (noT := noT) (off := 0) (v := w) hno hG;obtain ⟨r0, pr, r3, r4, r5, l, tl, e⟩ := pbody_form;have hrec : ∀ t d, RecsAt ((winWorld w Tryz.prog.globals.size #[] noT).tp t d) ((winWorld w Tryz.prog.globals.size #[] noT).tp t d).heap.size 4 none 0 [] := fun t d => RecsAt.nil
 have hres : Res (pctx noT 0).Px (fun b v w' => ∃ t d, PR 0 c none [] ((winWorld w Tryz.prog.globals.size #[] noT).tp t d) b v w') ⟨fra 87 (#[.slice none 0 c] ++ Array.replicate 54 undef) [.code (.seq r0 (.seq pr (.seq r3 (.seq r4 (.seq (.seq r5 (.refuse "")) .skip)))))] false, [Xb], winWorld w Tryz.prog.globals.size #[] noT⟩ :=
  Res.of_pro (fn := Tryz.f87) Tryz.func87 fun t d => (proW _ 0 c [] _ (hrec t d) (by omega) r0 pr r3 r4 r5 l tl e).mono (fun a w' x => ⟨x.1, t, d, x.2⟩) fun a w' x => ⟨x.1, x.2.imp fun v y => ⟨y.1, t, d, y.2⟩⟩
 have henter := enterC (.slice none 0 c);have hv1 : VR (pctx noT 0) (fun _ _ => False) (.slice none 0 c) (.slice none 0 c) := .sl0 0 c;have hva := (VAll.one hv1).append (VAll.replicate 54 (vr_undef (C := pctx noT 0) (r := fun _ _ => False)));have hfr : FrR (pctx noT 0) (fun _ _ => False) (fra 87 (#[.slice none 0 c] ++ Array.replicate 54 undef) [.code (.seq r0 (.seq pr (.seq r3 (.seq r4 (.seq (.seq r5 (.refuse "")) .skip)))))] false) (fra 87 (#[.slice none 0 c] ++ Array.replicate 54 undef) [.code pbody] false) :=
  .mk false (sameC noT 0) hva.on (proIL noT 0 e)
 have hway := way_of_res (main := true) (bs := cf :: cs) (ro := fun _ => False) (own := fun _ => False) (pro_ok noT 0) (by rintro ⟨k, h⟩; cases h) (fun _ _ => rfl) (pro_fine noT 0) hres _ hres.acc (Path.refl _ _) hfr (LR.nil) hWR (fun a b h => h.elim);rw [henter];have hway2 := hway.toG.bind' (R' := fun own => Stays (fun b => own b ∨ False)) (D' := fun own => Did own (fun _ => False)) (Stop' := fun o g w1 => ∀ w2, Stays (fun b => o b ∨ False) w1 w2 → AtEnd (pctx noT 0) (fun b v w' => ∃ t d, PR 0 c none [] ((winWorld w Tryz.prog.globals.size #[] noT).tp t d) b v w') (fun _ => False) (cf :: cs) o g w2)
  (fun _ _ _ x => x) (fun _ _ _ _ x => x) fun o g w x => .stop fun w1 h1 w2 h2 => x w2 (h1.trans h2)
 refine hway2.bind (fun _ _ => .refl _ _) (fun _ _ _ x => x) (fun _ _ _ _ x => x) ?_;intro o g w2 hend;have hrun : g.status = .running := by
  obtain ⟨_, _, _, _, _, _, rfl, _⟩ := hend w2 (.refl _ _);rfl
 refine .next hrun fun w3 h3 => ?_
 obtain ⟨r, wl, f, f', eb, x, rfl, hf, hwr, hte, hin, ⟨t, d, hbel, hpr⟩, hends⟩ := hend w3 h3;have hB : rowsB 0 [] = false := rfl;cases eb with
 | true => exact absurd hpr.1 (by rw [hB]; simp)
 | false =>
  obtain ⟨rfl, _⟩ := hpr;have hlv : f.leaving Tryz.prog wl (.returned (.slice none 0 0)) := by
   rcases hends with ⟨_, h⟩ | ⟨e, _⟩
   ·exact h
   ·cases e
  obtain ⟨y, v1, es, r1, hs, hext, hw1, hev, hvr⟩ := ret_step (pro_ok noT 0) hf hwr hte hlv cf cs true;have hd := hext.did (by rintro ⟨k, h⟩; cases h) hwr hw1 hin hev;cases hvr;exact ⟨_, v1, es, hs, hd, .stop fun w4 h4 => rfl⟩
def CornV (rs:List Int) (n:Nat) (own:Bl) (y:Value) (w:World):Prop :=
 (y = .slice none 0 0∧cornL rs n = []) ∨ ∃ g q cap cur,y = .slice (some ⟨g,0,none⟩) q cap∧own g∧q*4=(cornL rs n).length∧1≤q∧q≤cap∧cap≤maxLen∧w.heap[g]?=some (.cells cur 66 (0,0))∧cur.size=cap*4∧(∀ k,k<q*4→cur[k]?=some (.int .i64 (nth (cornL rs n) k)))∧∀ k,q*4≤k→k<cap*4→cur[k]?=some (.int .i64 0)
def RowsIn (A:Option Addr) (n:Nat) (xs:List Int) (w:World):Prop :=
 n≤1048576∧xs.length=n*4∧((n=0∧A=none) ∨ (1≤n∧∃ blk off,A=some ⟨blk,off,none⟩∧∀ k,k<4*n→w.cell? ⟨blk,off+k,none⟩=some (.int .i64 (nth xs k))))
theorem rows_corn (n:Nat) (xs:List Int):rowsB n xs=cornB xs n:=by unfold rowsB cornB; rw [Bool.and_comm]
theorem cornersWhole {noT:TypeId} (hno:Tryz.prog.toTables.info? noT=none) {A:Option Addr} {n c:Nat} {xs:List Int}
  {SB:Bl} {gs:Array Goroutine} {w:World} {t:Trace} (sl:Option (Nat × Nat)) (hc:Calm Tryz.prog SB gs w t) {cf:Frame} {cs:List Frame}
  (h0:gs[0]?=some (G (Frame.enter Tryz.prog 87 #[.slice A n c] .normal) (cf :: cs)))
  (hin:RowsIn A n xs w) (hb:∀ a,A=some a→a.block<w.heap.size∧¬ SB a.block) (hG:Tryz.prog.globals.size≤w.heap.size) :
  ∃ N gs' sl' t' w' SB' y own,runNT Tryz.prog N (crowd gs w sl) t=(.next (crowd gs' w' sl'),t')∧Calm Tryz.prog SB' gs' w' t'∧(∀ b,SB' b→SB b ∨ w.heap.size≤b)∧gs'[0]?=some (G (cf.finish y) cs)∧Stays (fun b=>b<w.heap.size) w w' ∧
   (∀ b,own b→w.heap.size≤b∧b<w'.heap.size∧¬ SB' b)∧CornV xs n own y w':=by
 obtain ⟨hn2,hxs,⟨rfl,rfl⟩ | ⟨hn,blk,off,rfl,hrows⟩⟩:=hin
 ·obtain ⟨N1,gs1,sl1,t1,a1,w1,own1,e1,_,c1,g1,s1,hst,hran⟩:=beside_way (pro_way0 hno cf cs c hG) (sl:=sl) hc h0 (fun b hb'=>by rcases hb' with hb' | hb' <;> exact hb'.elim)
  have hnil:xs = []:=List.eq_nil_of_length_eq_zero (by rw [hxs]);subst hnil;refine ⟨N1,gs1,sl1,t1,w1,SB,.slice none 0 0,fun _=>False,e1,c1,fun b h => .inl h,by rw [← hst]; exact g1,⟨hran.tape,hran.os,hran.output,hran.size,fun b hb' _=>hran.block b hb' (fun k=>k)⟩,fun b h=>h.elim,.inl ⟨rfl,?_⟩⟩;exact cornL_f (by rw [← rows_corn]; rfl)
 ·by_cases hB:rowsB n xs=true
  ·have hn20:n≤20:=by
    simp only [rowsB,Bool.and_eq_true,inB_iff] at hB;omega
   obtain ⟨N,gs',sl',t',w',SB',y,own,e,c',h1,h2,h3,h4,h5⟩:=cornersReal (zs:=cfI xs n) hno (fun i hi=>by
     obtain ⟨q,hq⟩:=cfI_acc (rs:=xs) hn20 i;have:=hq.len;have:=hq.few
     omega) (fun _ i hi W t d=>by
     have hrec:RecsAt ((winW W n xs noT).tp t d) ((winW W n xs noT).tp t d).heap.size 4 (some ⟨Tryz.prog.globals.size,0,none⟩) n xs:=⟨hxs,fun _=>⟨_,0,rfl,by rw [win_size]; omega,fun i hi=>by rw [Nat.zero_add,win_cell]; simp [show i<4*n by omega]⟩⟩;refine (iCf_any _ n c i xs _ hrec hn20 hi).mono ?_;rintro e w' ⟨v,q,rfl,ho,_⟩;refine ⟨v,rfl,?_⟩;have hlen:=ho.own.2;have hnz:=ho.nz;rcases ho.own.form with ⟨rfl,rfl,hx⟩ | ⟨g,cap,rfl,hg,hqc,hr⟩
     ·exact ⟨none,0,0,rfl,by rw [hx]; rfl,.inl ⟨rfl,rfl⟩⟩
     ·refine ⟨some ⟨g,0,none⟩,q,cap,rfl,hlen.symm,?_⟩
      have hq:0<q:=by
       rcases Nat.eq_zero_or_pos q with e | e
       ·subst e
        have:=hnz (List.eq_nil_of_length_eq_zero (by rw [hlen,Nat.zero_mul]));cases this
       ·exact e
      refine .inr ⟨hq,g,0,rfl,fun e => ?_,fun k hk=>by rw [Nat.zero_add]; exact hr.cell (by omega)⟩;have:((winW W n xs noT).tp t d).heap.size=Tryz.prog.globals.size+1:=win_size t d
      omega) sl hc h0 hn hn2 hxs hrows (hb _ rfl) hG
   refine ⟨N,gs',sl',t',w',SB',y,own,e,c',h1,h2,h3,h4,?_⟩;rcases h5 with ⟨e,_⟩ | ⟨_,h5⟩
   ·rw [hB] at e; cases e
   have hdd:=dd_corn (rs:=xs) (n:=n) (by rw [← rows_corn]; exact hB);rcases h5 with ⟨rfl,hnil⟩ | ⟨g,q,cap,cur,rfl,k1,k2,k3,k4,k5,k6,k7,k8,k9⟩
   ·exact .inl ⟨rfl,by rw [← hdd]; exact hnil⟩
   ·rw [hdd] at k2 k8
    exact .inr ⟨g,q,cap,cur,rfl,k1,k2,k3,k4,k5,k6,k7,k8,k9⟩
  ·have hB':rowsB n xs=false:=by simpa using hB
   obtain ⟨N,gs',sl',t',w',SB',y,own,e,c',h1,h2,h3,h4,h5⟩:=cornersReal (zs:=fun _ => []) hno (fun i hi=>by simp) (fun h=>absurd h hB) sl hc h0 hn hn2 hxs hrows (hb _ rfl) hG;refine ⟨N,gs',sl',t',w',SB',y,own,e,c',h1,h2,h3,h4,?_⟩;rcases h5 with ⟨_,rfl⟩ | ⟨e,_⟩
   ·exact .inl ⟨rfl,cornL_f (by rw [← rows_corn]; exact hB')⟩
   ·rw [hB'] at e; cases e
end Rn
namespace Rn
open Go.Conc
def SLoc2 (P:Program) (f:Frame) (cs:List Frame) (w:World) (f1:Frame) (cs1:List Frame) (w':World):Prop :=
 ∃ n,w'.tape=w.tape∧w'.drawn=w.drawn+n∧∀ (Y:List Frame) t' d',Agree n w.tape w.drawn t' d'→∃ es,stepG P true (G f (cs ++ Y)) (w.tp t' d') = .go (G f1 (cs1 ++ Y)) (w'.tp t' (d'+n)) es
theorem SLoc2.still {P:Program} {X:List Frame} {f f1:Frame} {cs cs1:List Frame} {g':Goroutine} {w w':World} {es:Array Event} (h:∀ Y u,stepG P true (G f (cs ++ Y)) u = .go (G f1 (cs1 ++ Y)) u #[]) (hs:stepG P true (G f (cs ++ X)) w = .go g' w' es) :
  ∃ f1 cs1,g'=G f1 (cs1 ++ X)∧SLoc2 P f cs w f1 cs1 w':=by
 rw [h] at hs;cases hs;exact ⟨f1,cs1,rfl,0,rfl,rfl,fun Y t' d' _=>⟨_,h _ _⟩⟩
theorem SLoc2.run {P:Program} {α:Type} {x:Sem α} {f f1:Frame} {cs cs1:List Frame} {w w1:World} {a:α} (hl:Loc P x w w.tape w.drawn #[]) (hx:x.run P w = .ok a w1)
  (h:∀ Y u u1,x.run P u = .ok a u1→∃ es,stepG P true (G f (cs ++ Y)) u = .go (G f1 (cs1 ++ Y)) u1 es):SLoc2 P f cs w f1 cs1 w1:=by
 obtain ⟨n,R,es',h1,h2⟩:=hl;have e1:R.tp w.tape (w.drawn+n) = .ok a w1:=by
  have:=Sem.runT_fst P x w #[];rw [hx] at this;rw [show x.runT P w #[]=(R.tp w.tape (w.drawn+n),es') from h1] at this;exact this
 cases R with
 | halt hh wh=>cases e1
 | ok b u =>
  cases e1;refine ⟨n,rfl,rfl,fun Y t' d' ha => ?_⟩;refine h _ _ _ ?_;have:=Sem.runT_fst P x (w.tp t' d') #[];rw [h2 t' d' ha] at this;exact this.symm
section
variable {C : Ctx} {r r' : Ren}
theorem stepLoc2 (ok:CtxOk C) {X:List Frame} {f f':Frame} {cs:List Frame} {w v:World} (hf:FrR C r f f') (hw:WR C r w v) (ht:TE w v)
  {g':Goroutine} {w':World} {es:Array Event} (hs:stepG C.Px true (G f (cs ++ X)) w = .go g' w' es) (hn:Nice g') (hnf:¬ (f.mode = .returning∧cs = [])):∃ f1 cs1,g'=G f1 (cs1 ++ X)∧SLoc2 C.Px f cs w f1 cs1 w':=by
 cases hf with
 | @mk f ts ts' todo todo' m hF hv hk =>
  cases m with
  | true =>
   cases cs with
   | nil=>exact absurd ⟨rfl,rfl⟩ hnf
   | cons c L1 =>
    obtain ⟨fn,bd,h1,h2⟩:=hF.body;have sim:=Sim.results fn (ok.res _ _ h1) hv w v #[] #[] hw ht (by simp);cases hrun:(results fn ts).run C.Px w with
    | halt h wh=>exact absurd hs (stepG_leaveH (P:=C.Px) h1 hrun)
    | ok x w1 =>
     rw [List.cons_append,stepG_leaveE (P:=C.Px) h1 hrun] at hs;cases hs;exact ⟨_,L1,rfl,SLoc2.run sim.2.2 hrun fun Y u u1 hu=>⟨_,stepG_leaveE (P:=C.Px) h1 hu⟩⟩
  | false =>
   cases hk with
   | nil=>exact SLoc2.still (fun Y u=>by rw [fra_run,stepG_end]) hs
   | stop h h0=>exact absurd hs stepG_refuse
   | part hk=>exact SLoc2.still (fun Y u=>by rw [fra_run,stepG_seq]) hs
   | @cons x k k' hk0 hk1 =>
    cases x with
    | code c =>
     cases c with
     | skip=>exact SLoc2.still (fun Y u=>by rw [fra_run,stepG_skip]) hs
     | ret=>exact SLoc2.still (fun Y u=>by rw [fra_run,stepG_ret']) hs
     | seq a b=>exact SLoc2.still (fun Y u=>by rw [fra_run,stepG_seq]) hs
     | block id b=>exact SLoc2.still (fun Y u=>by rw [fra_run,stepG_block]) hs
     | loop b=>exact SLoc2.still (fun Y u=>by rw [fra_run,stepG_loop]) hs
     | exit id =>
      cases he:exitTo id k with
      | none=>exact absurd hs (stepG_exit_bad he)
      | some k'=>exact SLoc2.still (fun Y u=>by rw [fra_run,stepG_exit he]) hs
     | cond c a b =>
      by_cases hb:∃ t,(Act.mk ts []).eval c = .bool t
      ·obtain ⟨t,hb⟩:=hb
       exact SLoc2.still (fun Y u=>by rw [fra_run,stepG_cond hb]) hs
      ·exact absurd hs (stepG_cond_bad fun t e=>hb ⟨t,e⟩)
     | region id ops draw =>
      cases draw with
      | false=>exact SLoc2.still (fun Y u=>by rw [fra_run,stepG_region]) hs
      | true =>
       rw [fra_run,stepG_region_draw] at hs;cases hs;refine ⟨_,cs,rfl,1,rfl,rfl,fun Y t' d' ha=>⟨#[],?_⟩⟩;have e0:=ha 0 (.order (base f).fn id) (by omega);simp only [Nat.add_zero] at e0;rw [fra_run,stepG_region_draw];rw [show (w.tp t' d').tape (w.tp t' d').drawn (.order (base f).fn id)=w.tape w.drawn (.order (base f).fn id) from e0.symm];rfl
     | _=>cases hk0
    | inBlock id=>exact SLoc2.still (fun Y u=>by rw [fra_run,stepG_inBlock]) hs
    | inLoop b=>exact SLoc2.still (fun Y u=>by rw [fra_run,stepG_inLoop]) hs
    | inRegion ops is =>
     cases is with
     | nil=>exact SLoc2.still (fun Y u=>by rw [fra_run,stepG_region_end]) hs
     | cons i rest =>
      cases ho:ops[i]? with
      | none=>exact SLoc2.still (fun Y u=>stepG_noOp ho) hs
      | some o =>
       cases hwn:Region.wanted o (yielded ops ts) with
       | false=>exact SLoc2.still (fun Y u=>by rw [fra_run,stepG_unwanted ho hwn]) hs
       | true =>
        have hoo:okOp C.tb C.F (C.D f) o=true:=by
         simp only [okI,Bool.and_eq_true] at hk0;obtain ⟨hi,rfl⟩:=Array.getElem?_eq_some_iff.1 ho;exact List.all_eq_true.1 hk0.1 _ (by simp)
        have he:∀ x,okX C.F (C.D f) x=true→VR C r ((Act.mk ts []).eval x) ((Act.mk ts' []).eval x):=by
         intro x hx;cases x with
         | tmp t=>exact hv.getD hx vr_undef
         | const c=>exact vr_flat hx
         | global g=>cases hx
         | func g=>exact .func hx rfl (fun i x y h=>by simp at h) rfl (fun i x y h=>by simp at h)
        have sim:=simOp ok (fun h=>⟨f,h⟩) (fun g h=>⟨f,h⟩) hoo he (fun _=>rfl) (fun _=>rfl) w v #[] #[] hw ht (by simp);have hki:(base f).kind ≠ .early:=by simp [base]
        simp only [fra_run] at hs ⊢;cases hrun:(execOp (Act.mk ts []).eval o).run C.Px w with
        | halt h wh =>
         have hni:=sim.2.1 h wh _ (by rw [← hrun,← Sem.runT_fst _ _ _ #[]]);rw [stepG_oper ho hwn] at hs;exact (apply_halt rfl hrun (fun x e=>by subst e; simp [isInit] at hni) (fun m e=>by subst e; simp [isInit] at hni) (fun m e=>by subst e; simp [isInit] at hni) hs hn).elim
        | ok n w1 =>
         obtain ⟨n',v1,fs1,r1,e1,x1,hw1,ht1,hf1,q1⟩:=sim.1 n w1 ((execOp (Act.mk ts []).eval o).runT C.Px w #[]).2 (by rw [← hrun,← Sem.runT_fst _ _ _ #[]]);rcases q1.out with ⟨a,b,rfl,rfl,hab⟩ | ⟨rfl,rfl⟩ | ⟨fn,xs,ys,rfl,rfl,hF,hxy⟩ | ⟨c,c',sh,rfl,rfl,hC⟩;rotate_left 3
         ·rw [stepG_comm ho hwn hki hrun] at hs; cases hs
         ·rw [stepG_value ho hwn hki hrun] at hs
          cases hs;exact ⟨_,cs,rfl,SLoc2.run sim.2.2 hrun fun Y u u1 hu=>⟨_,stepG_value ho hwn hki hu⟩⟩
         ·rw [stepG_none ho hwn hki hrun] at hs
          cases hs;exact ⟨_,cs,rfl,SLoc2.run sim.2.2 hrun fun Y u u1 hu=>⟨_,stepG_none ho hwn hki hu⟩⟩
         ·rw [stepG_enter ho hwn hki hrun] at hs
          cases hs;exact ⟨_,_ :: cs,rfl,SLoc2.run sim.2.2 hrun fun Y u u1 hu=>⟨_,stepG_enter ho hwn hki hu⟩⟩
    | _=>cases hk0
end
end Rn
namespace Rn
open Go.Conc
section
variable {C : Ctx} {r r' : Ren}
theorem stepRun (ok:CtxOk C) {b:Bool} {fr:Frame} {w':World} {x:Value} (hlv:Ends C.Px b fr w' x) {K:Nat} {f f':Frame} {cs L':List Frame} {w v:World} {bs:List Frame} {main:Bool}
  (hf:FrR C r f f') (hl:LR C r [Xb] bs (cs ++ [Xb]) L') (hw:WR C r w v) (hT:TE w v) (hK:runN C.Px K (lone f (cs ++ [Xb]) w) = .next (lone fr [Xb] w')) :
  (K=0∧cs = []∧f=fr∧w=w') ∨
  (∃ k f1 cs1 w1,K=k+1∧¬ (f.mode = .returning∧cs = [])∧SLoc2 C.Px f cs w f1 cs1 w1∧runN C.Px k (lone f1 (cs1 ++ [Xb]) w1) = .next (lone fr [Xb] w')∧Answers C r [Xb] bs main f' L' w v (G f1 (cs1 ++ [Xb])) w1) ∨
  (∃ k x x' n w2 v1 v2 r1 c' sh es',K=k+1∧runN C.Px k (lone (f.finish x) (cs ++ [Xb]) w2) = .next (lone fr [Xb] w')∧CommOn C r f f' w v x x' n w2 v1 v2 r1 c' sh es'):=by
 have hcs:∀ c ∈ cs,PlainF C.Px c:=by
  obtain ⟨cs',e,h⟩:=hl.plain;obtain rfl:=List.append_cancel_right e;exact h
 by_cases h0:K=0
 ·subst h0
  simp only [runN] at hK;unfold lone at hK;simp at hK;obtain ⟨e1,e2,e3⟩:=hK;exact .inl ⟨rfl,e3,e2,e1⟩
 ·obtain ⟨k,rfl⟩:∃ k,K=k+1:=⟨K - 1,by omega⟩
  have hfin:¬ (f.mode = .returning∧cs = []):=by
   rintro ⟨hm,rfl⟩;cases hf with
   | @mk fid ts ts' todo todo' m2 hF hv hk =>
    cases m2 with
    | false=>cases hm
    | true =>
     obtain ⟨fn,bd,h1,h2⟩:=hF.body;cases hrun:(results fn ts).run C.Px w with
     | halt h wh =>
      obtain ⟨o,w2,he⟩:=stepG_leaveF (P:=C.Px) (todo:=todo) (cs := [Xb]) h1 hrun;simp only [runN,List.nil_append] at hK;rw [step_lone_ended he] at hK;cases hK
     | ok y w1 =>
      have hs:step C.Px (lone (fra fid ts todo true) [Xb] w) = .next (lone Xb [] w1):=step_lone_go (by
       show (stepG C.Px true (G (fra fid ts todo true) [Xb]) w).bare=_
       rw [stepG_leaveE (P:=C.Px) h1 hrun]
       rfl)
      simp only [runN,List.nil_append,hs] at hK;cases k with
      | zero=>simp only [runN] at hK; unfold lone at hK; simp at hK
      | succ k =>
       simp only [runN] at hK;cases hq:step C.Px (lone Xb [] w1) with
       | next m1=>exact absurd hq (step_Xb _ _ m1)
       | ended o w2=>rw [hq] at hK; cases hK
  have hnf:¬ (f.mode = .returning∧cs ++ [Xb] = [Xb]):=fun ⟨a,e⟩=>hfin ⟨a,by simpa using e⟩
  right;by_cases hnc:CommStep C r f f' w v
  ·right
   obtain ⟨x,x',m,w2,v1,v2,r1,c',sh,es',hcm⟩:=comm_on hf hcs hnc hlv.mode hK;have h1:=hcm.lone (cs ++ [Xb]) w.tape w.drawn (fun _ _ _=>rfl);rw [show w.tp w.tape w.drawn=w from rfl,show w2.tp w.tape (w.drawn+m)=w2 by rw [← hcm.tape,← hcm.drawn]; rfl] at h1
   simp only [runN,h1] at hK;exact ⟨k,x,x',m,w2,v1,v2,r1,c',sh,es',rfl,hK,hcm⟩
  left;rcases stepForm ok hf hl hw hT hnf hnc with ⟨f1,L1,w1,es,hs,hn⟩ | ⟨f1,w1,es,chain,hs,hm,hd,hfn⟩ | ⟨o,w1,hs⟩
  ·have hans:=stepSim (main:=main) ok hf hl hw hT hs hn hnf
   obtain ⟨f2,cs2,e2,hloc⟩:=stepLoc2 ok hf hw hT hs hn hfin;have h1:step C.Px (lone f (cs ++ [Xb]) w) = .next (lone f1 L1 w1):=step_lone_go (by
    show (stepG C.Px true (G f (cs ++ [Xb])) w).bare=_
    rw [hs]; rfl)
   have e3:f1=f2∧L1=cs2 ++ [Xb]:=by
    unfold G at e2;simpa using e2
   obtain ⟨rfl,rfl⟩:=e3;simp only [runN,h1] at hK;exact ⟨k,f1,cs2,w1,rfl,hfin,hloc,hK,hans⟩
  ·exfalso
   have h1:step C.Px (lone f (cs ++ [Xb]) w) = .next (lone f1 (cs ++ [Xb]) w1):=step_lone_go (by
    show (stepG C.Px true (G f (cs ++ [Xb])) w).bare=_
    rw [hs]; rfl)
   simp only [runN,h1] at hK;have hpf:f.defers = []∧∃ fn,C.Px.funcs[f.fn]?=some fn:=by
    cases hf with
    | mk m hF _ _ =>
     obtain ⟨fn,c,h1,_⟩:=hF.body;exact ⟨rfl,fn,h1⟩
   exact pan_never hm (hd.trans hpf.1) (by rw [hfn]; exact hpf.2) hcs hlv.mode hK
  ·exfalso
   simp only [runN] at hK;rw [step_lone_ended hs] at hK;cases hK
theorem LR.selfs {X:List Frame}:∀ {cs:List Frame},LR C r [Xb] X (cs ++ [Xb]) (cs ++ X)→∀ c ∈ cs,FrR C r c c
 | [],_,c,h=>by simp at h
 | c0 :: cs,h,c,hc=>by
  have key:∀ {A B:List Frame},LR C r [Xb] X A B→A=c0 :: (cs ++ [Xb])→B=c0 :: (cs ++ X)→FrR C r c0 c0∧LR C r [Xb] X (cs ++ [Xb]) (cs ++ X):=by
   intro A B hAB e1 e2;cases hAB with
   | nil=>simp at e1
   | cons a b =>
    simp only [List.cons.injEq] at e1 e2;obtain ⟨rfl,rfl⟩:=e1;obtain ⟨rfl,rfl⟩:=e2;exact ⟨a,b⟩
  obtain ⟨k1,k2⟩:=key h rfl rfl;rcases List.mem_cons.1 hc with rfl | hc
  ·exact k1
  ·exact LR.selfs k2 c hc
theorem LR.ofSelfs {X:List Frame}:∀ {cs:List Frame},(∀ c ∈ cs,FrR C r c c)→LR C r [Xb] X (cs ++ [Xb]) (cs ++ X)
 | [],_ => .nil
 | c :: cs,h => .cons (h c (by simp)) (LR.ofSelfs fun c hc=>h c (by simp [hc]))
theorem self_run (ok:CtxOk C) (hS:C.fs=C.fx) (hall:∀ f n,Entered C f n→Fine C f) {X:List Frame} {b:Bool} {fr:Frame} {w':World} {x:Value} (hlv:Ends C.Px b fr w' x) :
  ∀ (K:Nat) {r:Ren} {f:Frame} {cs:List Frame} {w:World},FrR C r f f→(∀ c ∈ cs,FrR C r c c)→WR C r w w→runN C.Px K (lone f (cs ++ [Xb]) w) = .next (lone fr [Xb] w') →
   ∃ n,LStep C.Px ⟨f,cs ++ X,w⟩ n K ⟨fr,X,w'⟩ w.tape w.drawn∧w'.tape=w.tape∧w'.drawn=w.drawn+n∧∃ r',Sub r r'∧FrR C r' fr fr∧WR C r' w' w':=by
 have hP:C.P=C.Px:=by unfold Ctx.P Ctx.Px; rw [hS]
 intro K;induction K with
 | zero =>
  intro r f cs w hf hcs hw hK;simp only [runN] at hK;unfold lone at hK;simp at hK;obtain ⟨rfl,rfl,rfl⟩:=hK;exact ⟨0,LStep.refl _ _ _ _,rfl,rfl,r,Sub.refl _,hf,hw⟩
 | succ K ih =>
  intro r f cs w hf hcs hw hK;rcases stepRun (main:=true) ok hlv hf (LR.ofSelfs (X:=X) hcs) hw (fun _ _=>rfl) hK with ⟨e,_⟩ | ⟨k,f1,cs1,w1,e,_,⟨n,t1,t2,hloc⟩,hK1,h',v',fs',r',hst,hext,hw1,_,_,hout⟩ | ⟨k,x,x',n,w2,v1,v2,r1,c',sh,es',e,hK1,hcm⟩
  ·omega
  rotate_left
  ·obtain rfl:K=k:=by omega
   have ew:w.tp w.tape w.drawn=w:=rfl;have ew1:w2.tp w.tape (w.drawn+n)=w2:=by rw [← hcm.tape,← hcm.drawn]; rfl
   have h1:=hcm.lone X w.tape w.drawn (fun _ _ _=>rfl);rw [ew,ew1] at h1;have h2:=hcm.rdy.lone (P:=C.Px) (hP ▸ hcm.real true X);rw [h1] at h2;have h3:f.finish x=f.finish x'∧w2=v2:=by
    unfold lone at h2;simp at h2;exact ⟨h2.2,h2.1⟩
   have hfx:=(hf.mono hcm.ext.le).finish hcm.val;have hwx:=hcm.wr;rw [← h3.1] at hfx;rw [← h3.2] at hwx;obtain ⟨n2,hL,u1,u2,r2,s2,hfr,hwr⟩:=ih hfx (fun c hc=>(hcs c hc).mono hcm.ext.le) hwx hK1;have h4:LStep C.Px ⟨f,cs ++ X,w⟩ n 1 ⟨f.finish x,cs ++ X,w2⟩ w.tape w.drawn:=fun t' d' ha=>by
    have:=hcm.lone (cs ++ X) t' d' ha;show runN C.Px 1 (lone f (cs ++ X) (w.tp t' d'))=_
    simp only [runN,this];rfl
   refine ⟨n+n2,fun t' d' ha => ?_,u1.trans hcm.tape,by rw [u2,hcm.drawn,Nat.add_assoc],r2,hcm.ext.le.trans s2,hfr,hwr⟩;rw [Nat.add_comm K 1,runN_add,h4 t' d' (fun i q hi=>ha i q (by omega))];have h5:=hL t' (d'+n) (fun i q hi=>by
    have:=ha (n+i) q (by omega);rw [hcm.tape,hcm.drawn,Nat.add_assoc,this,Nat.add_assoc])
   rw [← Nat.add_assoc];exact h5
  ·obtain rfl:K=k:=by omega
   obtain ⟨es,hs1⟩:=hloc X w.tape w.drawn (fun _ _ _=>rfl);have ew:w.tp w.tape w.drawn=w:=rfl;have ew1:w1.tp w.tape (w.drawn+n)=w1:=by rw [← t1,← t2]; rfl
   rw [ew,ew1] at hs1;rw [hP,hs1] at hst;simp only [GStep.go.injEq] at hst;obtain ⟨rfl,rfl,_⟩:=hst;have hself:FrR C r' f1 f1∧∀ c ∈ cs1,FrR C r' c c:=by
    generalize hA:G f1 (cs1 ++ [Xb])=A at hout;generalize hB:G f1 (cs1 ++ X)=B at hout;cases hout with
    | go a b =>
     unfold G at hA hB;simp at hA hB;obtain ⟨rfl,rfl⟩:=hA;obtain ⟨rfl,rfl⟩:=hB;exact ⟨a,b.selfs⟩
    | call hF hn _ _ _=>exact absurd (hall _ _ hF) hn
   obtain ⟨n2,hL,u1,u2,r2,s2,hfr,hwr⟩:=ih hself.1 hself.2 hw1 hK1;have h1:LStep C.Px ⟨f,cs ++ X,w⟩ n 1 ⟨f1,cs1 ++ X,w1⟩ w.tape w.drawn:=fun t' d' ha=>by
    obtain ⟨es',hs'⟩:=hloc X t' d' ha;show runN C.Px 1 (lone f (cs ++ X) (w.tp t' d'))=_
    have:step C.Px (lone f (cs ++ X) (w.tp t' d')) = .next (lone f1 (cs1 ++ X) (w1.tp t' (d'+n))):=step_lone_go (by
     show (stepG C.Px true (G f (cs ++ X)) (w.tp t' d')).bare=_
     rw [hs']
     rfl)
    simp only [runN,this];rfl
   refine ⟨n+n2,fun t' d' ha => ?_,u1.trans t1,by rw [u2,t2,Nat.add_assoc],r2,hext.le.trans s2,hfr,hwr⟩;rw [Nat.add_comm K 1,runN_add,h1 t' d' (fun i q hi=>ha i q (by omega))];have h2:=hL t' (d'+n) (fun i q hi=>by
    have:=ha (n+i) q (by omega);rw [t1,t2,Nat.add_assoc,this,Nat.add_assoc])
   rw [← Nat.add_assoc];exact h2
end
end Rn
namespace Rn
open Go.Conc
def Ahead (P:Program) (f:Frame) (L:List Frame) (w:World):Prop:=∃ K b fr w' x,runN P K (lone f L w) = .next (lone fr [Xb] w')∧Ends P b fr w' x
section
variable {P : Program} {f : Frame} {cs : List Frame} {w : World}
theorem Ahead.next (h:Ahead P f (cs ++ [Xb]) w) (hcs:cs ≠ []):∃ m,step P (lone f (cs ++ [Xb]) w) = .next m∧∃ K b fr w' x,runN P K m = .next (lone fr [Xb] w')∧Ends P b fr w' x:=by
 obtain ⟨K,b,fr,w',x,hK,he⟩:=h;cases K with
 | zero =>
  exfalso
  simp only [runN] at hK;unfold lone at hK;simp at hK;exact hcs hK.2.2
 | succ K =>
  simp only [runN] at hK;cases hs:step P (lone f (cs ++ [Xb]) w) with
  | next m=>rw [hs] at hK; exact ⟨m,rfl,K,b,fr,w',x,hK,he⟩
  | ended o w2=>rw [hs] at hK; cases hK
theorem Ahead.go (h:Ahead P f (cs ++ [Xb]) w) (hcs:cs ≠ []) {f1:Frame} {L1:List Frame} {w1:World} (hs:step P (lone f (cs ++ [Xb]) w) = .next (lone f1 L1 w1)):Ahead P f1 L1 w1:=by
 obtain ⟨m,e,K,b,fr,w',x,hK,he⟩:=h.next hcs;rw [hs] at e;cases e;exact ⟨K,b,fr,w',x,hK,he⟩
theorem Ahead.not_ended (h:Ahead P f (cs ++ [Xb]) w) (hcs:cs ≠ []) {o:Outcome} {w1:World} (hs:step P (lone f (cs ++ [Xb]) w) = .ended o w1):False:=by
 obtain ⟨m,e,_⟩:=h.next hcs;rw [hs] at e;cases e
end
section
variable {S : Ctx} {r : Ren}
theorem Ahead.op (ok:CtxOk S) (hS:S.fs=S.fx) {f:FuncId} {ts:Array Value} {ops:Array Oper} {i:Nat} {rest:List Nat} {k:List Item} {cs:List Frame} {w:World}
  (h:Ahead S.Px ((base f).at ⟨ts,[]⟩ (.inRegion ops (i :: rest) :: k)) (cs ++ [Xb]) w) (hcs:cs ≠ []) (hpl:∀ c ∈ cs,PlainF S.Px c) (hfn:∃ fn,S.Px.funcs[f]?=some fn) {o:Oper} (ho:ops[i]?=some o) (hwn:Region.wanted o (yielded ops ts)=true)
  (hoo:okOp S.tb S.F (S.D f) o=true) (hv:VAll S r ts ts) (hw:WR S r w w) :
  ∃ n w1 r1,(execOp (Act.mk ts []).eval o).run S.Px w = .ok n w1∧Sub r r1∧WR S r1 w1 w1 ∧
   ∀ v,n = .value v→VAll S r1 ((Act.mk ts []).put o.dst v).tmps ((Act.mk ts []).put o.dst v).tmps∧Ahead S.Px ((base f).at ((Act.mk ts []).put o.dst v) (.inRegion ops rest :: k)) (cs ++ [Xb]) w1:=by
 have hP:S.P=S.Px:=by unfold Ctx.P Ctx.Px; rw [hS]
 have he:∀ x,okX S.F (S.D f) x=true→VR S r ((Act.mk ts []).eval x) ((Act.mk ts []).eval x):=by
  intro x hx;cases x with
  | tmp t=>exact hv.getD t vr_undef
  | const c=>exact vr_flat hx
  | global g=>cases hx
  | func g=>exact .func hx rfl (fun i x y h=>by simp at h) rfl (fun i x y h=>by simp at h)
 have sim:=simOp ok (fun h=>⟨f,h⟩) (fun g h=>⟨f,h⟩) hoo he (fun _=>rfl) (fun _=>rfl) w w #[] #[] hw (fun _ _=>rfl) (by simp);have hki:(base f).kind ≠ .early:=by simp [base]
 cases hrun:(execOp (Act.mk ts []).eval o).run S.Px w with
 | halt hh wh =>
  exfalso
  have hni:=sim.2.1 hh wh ((execOp (Act.mk ts []).eval o).runT S.Px w #[]).2 (by rw [← hrun,← Sem.runT_fst _ _ _ #[]]);have hst:stepG S.Px true (G ((base f).at ⟨ts,[]⟩ (.inRegion ops (i :: rest) :: k)) (cs ++ [Xb])) w=_:=stepG_oper ho hwn;rcases apply_form (P:=S.Px) (cs:=cs ++ [Xb]) (fr:=(base f).at ⟨ts,[]⟩ (.inRegion ops (i :: rest) :: k)) rfl hrun hni with ⟨f1,w1,es,chain,hs,hm,hd,hf1⟩ | ⟨oo,w1,hs⟩
  ·rw [hs] at hst
   obtain ⟨K,b,fr,w',x,hK,hend⟩:=h.go hcs (step_lone_go (by
    show (stepG S.Px true (G ((base f).at ⟨ts,[]⟩ (.inRegion ops (i :: rest) :: k)) (cs ++ [Xb])) w).bare=_
    rw [hst]; rfl):step S.Px (lone ((base f).at ⟨ts,[]⟩ (.inRegion ops (i :: rest) :: k)) (cs ++ [Xb]) w) = .next (lone f1 (cs ++ [Xb]) w1))
   exact pan_never hm hd (by rw [hf1]; exact hfn) hpl hend.mode hK
  ·rw [← hst] at hs
   exact h.not_ended hcs (step_lone_ended hs)
 | ok n w1 =>
  obtain ⟨n',v1,fs1,r1,e1,x1,hw1,_,_,q1⟩:=sim.1 n w1 ((execOp (Act.mk ts []).eval o).runT S.Px w #[]).2 (by rw [← hrun,← Sem.runT_fst _ _ _ #[]]);have hrun1:(execOp (Act.mk ts []).eval o).run S.P w = .ok n' v1:=by rw [← Sem.runT_fst _ _ _ #[],e1]
  rw [hP,hrun] at hrun1;cases hrun1;refine ⟨n,w1,r1,rfl,x1.le,hw1,?_⟩;rintro v rfl;have hvr:VR S r1 v v:=q1;have hst:stepG S.Px true (G ((base f).at ⟨ts,[]⟩ (.inRegion ops (i :: rest) :: k)) (cs ++ [Xb])) w=_:=stepG_value ho hwn hki hrun;refine ⟨?_,h.go hcs (step_lone_go (by
   show (stepG S.Px true (G ((base f).at ⟨ts,[]⟩ (.inRegion ops (i :: rest) :: k)) (cs ++ [Xb])) w).bare=_
   rw [hst]; rfl))⟩
  unfold Act.put;cases o.dst with
  | none=>exact hv.mono x1.le
  | some d=>exact (hv.mono x1.le).set d hvr
end
end Rn
end Go.Proofs.YtjcgklifabcfkaaGreat
