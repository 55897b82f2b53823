/-
  Texts that the law stands on, part 19.
-/
import Derived.Test.YtjcgklifabcfkaaGreatV18
set_option maxRecDepth 100000
set_option linter.unusedVariables false
set_option linter.unusedSimpArgs false
set_option maxHeartbeats 12800000
namespace Go.Proofs.YtjcgklifabcfkaaGreat
namespace X
open Go.RowKit
theorem infoThr:(Tryzx.prog.info? 66).map (fun i=>(i.zero,i.size,i.bytes))=some (some (.agg #[.int .i64 0,.int .i64 0,.int .i64 0,.int .i64 0]),4,32):=by kernel_rfl
theorem l11Has_any (A:Option Addr) (n c:Nat) (xs:List Int) (H V M D:Int) (w:World) (h:RecsAt w w.heap.size 4 A n xs) (hn:n<=1048576) :
  Calls Tryzx.prog 96 #[.slice A n c,.agg #[.int .i64 H,.int .i64 V,.int .i64 M,.int .i64 D]] w fun e w'=>e = .returned (.bool (hasTo xs H V M D n))/\Below w.heap.size w w':=by
 have HL:=q_ h;have BX:=q_ (Box4.new w H V M D 66);have B0:=q_ ((Below.refl w.heap.size w).alloc (Nat.le_refl _) (.cells #[.int .i64 H,.int .i64 V,.int .i64 M,.int .i64 D] 66));clear h;go_enter Tryzx.func96,Tryz.ntmps96;go_wp2;go_loopw [5] (fun i wr=>∃ k:Nat,k<=n/\i = .int .i64 k/\Hid (hasTo xs H V M D k=false)/\Hid (Box4 wr w.heap.size H V M D)/\Hid (Below w.heap.size w wr)) (fun i _=>n - (intOf i).toNat)
 case atStart=>exact ⟨0,Nat.zero_le _,rfl,q_ rfl,BX,B0⟩
 case round =>
  clear BX B0;obtain ⟨k,hk,rfl,HP,HX,HB⟩:=hrel;by_cases hlt:k<n
  ·obtain ⟨b,off,rfl,hbB,hc⟩:=HL.out.2 (by omega)
   obtain ⟨x0,x1,x2,x3⟩:=rwCells (fun i hi=>(HB.out.cell (by exact hbB)).trans (hc i hi)) hlt;have HT:=q_ (fun e=>hasTo_mem (xs:=xs) (H:=H) (V:=V) (M:=M) (D:=D) e hlt);have HS:=q_ (fun e=>hasTo_step HP.out (k:=k) e);have HE:Hid (hasAt xs H V M D k=(decide (nth xs (k*4)=H) && (decide (nth xs (k*4+1)=V) && (decide (nth xs (k*4+2)=M) && decide (nth xs (k*4+3)=D))))):=rfl;clear hc;generalize nth xs (k*4)=y0 at *
   generalize nth xs (k*4+1)=y1 at *
   generalize nth xs (k*4+2)=y2 at *
   generalize nth xs (k*4+3)=y3 at *
   obtain ⟨c0,c1,c2,c3⟩:=HX.out.1;have ki:(k:Int)<(n:Int):=by omega
   by_cases e0:y0=H
   rotate_left
   ·have HS1:=q_ (HS.out (HE.out.trans (by simp [e0])))
    go_wp2;go_region
    go_wp2;go_roundw
    case rel=>exact ⟨k+1,by omega,by go_num,HS1,HX.out.after (below_dr (Below.refl _ _)) |> q_,q_ (below_dr HB.out)⟩
    case measure=>simp [intOf]; omega
   by_cases e1:y1=V
   rotate_left
   ·have HS1:=q_ (HS.out (HE.out.trans (by simp [e0,e1])))
    go_wp2;go_region
    go_wp2;go_roundw
    case rel=>exact ⟨k+1,by omega,by go_num,HS1,HX.out.after (below_dr (Below.refl _ _)) |> q_,q_ (below_dr HB.out)⟩
    case measure=>simp [intOf]; omega
   by_cases e2:y2=M
   rotate_left
   ·have HS1:=q_ (HS.out (HE.out.trans (by simp [e0,e1,e2])))
    go_wp2;go_region
    go_wp2;go_roundw
    case rel=>exact ⟨k+1,by omega,by go_num,HS1,HX.out.after (below_dr (Below.refl _ _)) |> q_,q_ (below_dr HB.out)⟩
    case measure=>simp [intOf]; omega
   by_cases e3:y3=D
   rotate_left
   ·have HS1:=q_ (HS.out (HE.out.trans (by simp [e0,e1,e2,e3])))
    go_wp2;go_region
    go_wp2;go_roundw
    case rel=>exact ⟨k+1,by omega,by go_num,HS1,HX.out.after (below_dr (Below.refl _ _)) |> q_,q_ (below_dr HB.out)⟩
    case measure=>simp [intOf]; omega
   have HT1:=q_ (HT.out (HE.out.trans (by simp [e0,e1,e2,e3])));go_wp2;go_region
   go_wp2;go_ret;exact ⟨ret_bool HT1.out.symm,below_dr HB.out⟩
  ·obtain rfl:k=n:=by omega
   go_wp2;go_ret;exact ⟨ret_bool HP.out.symm,HB.out⟩
theorem keep12 {w1 w2:World} {b off i k m:Nat} {pa pb pc pd qa qb qc qd ra rb rc rd:Int} (h:(w1.cell? ⟨b,off+i*4,none⟩=some (.int .i64 pa)/\w1.cell? ⟨b,off+i*4+1,none⟩=some (.int .i64 pb)/\w1.cell? ⟨b,off+i*4+2,none⟩=some (.int .i64 pc)/\w1.cell? ⟨b,off+i*4+3,none⟩=some (.int .i64 pd))/\(w1.cell? ⟨b,off+k*4,none⟩=some (.int .i64 qa)/\w1.cell? ⟨b,off+k*4+1,none⟩=some (.int .i64 qb)/\w1.cell? ⟨b,off+k*4+2,none⟩=some (.int .i64 qc)/\w1.cell? ⟨b,off+k*4+3,none⟩=some (.int .i64 qd))/\(w1.cell? ⟨b,off+m*4,none⟩=some (.int .i64 ra)/\w1.cell? ⟨b,off+m*4+1,none⟩=some (.int .i64 rb)/\w1.cell? ⟨b,off+m*4+2,none⟩=some (.int .i64 rc)/\w1.cell? ⟨b,off+m*4+3,none⟩=some (.int .i64 rd))) (e:∀ x,w2.cell? ⟨b,x,none⟩=w1.cell? ⟨b,x,none⟩) :
  (w2.cell? ⟨b,off+i*4,none⟩=some (.int .i64 pa)/\w2.cell? ⟨b,off+i*4+1,none⟩=some (.int .i64 pb)/\w2.cell? ⟨b,off+i*4+2,none⟩=some (.int .i64 pc)/\w2.cell? ⟨b,off+i*4+3,none⟩=some (.int .i64 pd))/\(w2.cell? ⟨b,off+k*4,none⟩=some (.int .i64 qa)/\w2.cell? ⟨b,off+k*4+1,none⟩=some (.int .i64 qb)/\w2.cell? ⟨b,off+k*4+2,none⟩=some (.int .i64 qc)/\w2.cell? ⟨b,off+k*4+3,none⟩=some (.int .i64 qd))/\(w2.cell? ⟨b,off+m*4,none⟩=some (.int .i64 ra)/\w2.cell? ⟨b,off+m*4+1,none⟩=some (.int .i64 rb)/\w2.cell? ⟨b,off+m*4+2,none⟩=some (.int .i64 rc)/\w2.cell? ⟨b,off+m*4+3,none⟩=some (.int .i64 rd)):=by
 simp only [e];exact h
theorem sCorners_any (A:Option Addr) (n c:Nat) (rs:List Int) (w:World) (h:RecsAt w w.heap.size 4 A n rs) (hn:n<=1048576) :
  Calls Tryzx.prog 68 #[.slice A n c] w fun e w'=>∃ v,e = .returned v/\OwnR w' w.heap.size 66 4 v (cornN rs n) (cornL rs n)/\Below w.heap.size w w':=by
 have HL:=q_ h;have HO0:=q_ (OwnR.new w 66 4);have HB0:=q_ ((Below.refl w.heap.size w).alloc (Nat.le_refl _) (.cells #[] 66));have HCF:Hid (cornB rs n=false->cornN rs n=0/\cornL rs n = []):=q_ fun e=>by rw [cornN,cornL_f e]; exact ⟨rfl,rfl⟩
 clear h;go_enter Tryzx.func68,Tryz.ntmps68;go_wp2;go_loopw [4] (fun v4 wr=>∃ k:Nat,k<=n/\v4 = .int .i64 k/\Hid (allTo (rowAt rs) k)/\Hid (OwnR wr w.heap.size 66 4 (.slice (some ⟨w.heap.size,0,none⟩) 0 0) 0 [])/\Hid (Below w.heap.size w wr)) (fun v4 _=>n - (intOf v4).toNat)
 case atStart=>exact ⟨0,Nat.zero_le _,rfl,q_ (allTo_0 _),HO0,HB0⟩
 case round =>
  clear HO0 HB0;obtain ⟨k,hk,rfl,HP,HO,HB⟩:=hrel;by_cases hlt:k<n
  ·obtain ⟨b,off,rfl,hbB,hc⟩:=HL.out.2 (by omega)
   obtain ⟨x0,x1,x2,x3⟩:=rwCells (fun i hi=>(HB.out.cell (by exact hbB)).trans (hc i hi)) hlt;have HR:=q_ (show rowAt rs k=rowB (nth rs (k*4)) (nth rs (k*4+1)) (nth rs (k*4+2)) (nth rs (k*4+3)) from rfl);have ki:(k:Int)<(n:Int):=by omega
   clear hc;go_wp2_with fail
   refine (sRowOk_any _ _ _ _ _).mono ?_;rw [<- HR.out];rintro e w1 ⟨rfl,hb1⟩;have HO1:=q_ (HO.out.below hb1);have HB1:=q_ (below_then HB.out hb1);clear hb1 x0 x1 x2 x3 HO HB;cases hr:rowAt rs k
   ·obtain ⟨e1,e2⟩:=HCF.out (cornB_1 hlt hr)
    go_wp2;go_ret;exact ⟨_,rfl,by rw [e1,e2]; exact HO1.out,HB1.out⟩
   ·have HS:=q_ (allTo_step HP.out hr)
    go_wp2;go_roundw
    case rel=>exact ⟨k+1,by omega,by go_num,HS,HO1,HB1⟩
    case measure=>simp [intOf]; omega
  ·obtain rfl:n=k:=by omega
   have kn:¬ (n:Int)<(n:Int):=by omega
   go_wp2_with fail
   refine (l01In_any _ _ _ _).mono ?_;cases hin:inB (n:Int) 3 20
   ·obtain ⟨e1,e2⟩:=HCF.out (cornB_2 hin)
    rintro e w1 ⟨rfl,rfl⟩;go_wp2;go_ret;exact ⟨_,rfl,by rw [e1,e2]; exact HO.out,HB.out⟩
   have HCT:=q_ (cornB_t HP.out hin);have h20:n<=20:=by rw [inB_iff] at hin; omega
   rintro e w1 ⟨rfl,rfl⟩;have HP0:=HP.out;clear HP hin hk hlt HCF;go_wp2;go_loopw [3,5] (fun v3 v5 wr=>∃ i q:Nat,i<=n/\v5 = .int .i64 i/\Hid (CorAcc (corI rs n i) q (400*i))/\Hid (OwnR wr w.heap.size 66 4 v3 q (corI rs n i))/\Hid (Below w.heap.size w wr)) (fun _ v5 _=>n - (intOf v5).toNat)
   case atStart=>exact ⟨0,0,Nat.zero_le _,rfl,q_ ⟨rfl,Nat.le_refl _⟩,HO,HB⟩
   case round =>
    clear HO HB;obtain ⟨i,q,hi,rfl,HA,HO,HB⟩:=hrel;by_cases hli:i<n
    ·have HI1:=q_ (show corI rs n (i+1)=corK rs n i (corI rs n i) (n - (i+1)) from corI_s i)
     obtain ⟨a2,ha2⟩:∃ a,corI rs n i=a:=⟨_,rfl⟩;rw [ha2] at HA HO HI1;clear ha2;have ii:(i:Int)<(n:Int):=by omega
     have ei:IntKind.i64.wrap ((i:Int)+1)=(i:Int)+1:=iW (by omega);go_wp2;go_loopw [3,6] (fun v3 v6 wr=>∃ t q:Nat,i+1+t<=n/\v6 = .int .i64 ((i:Int)+1+t)/\Hid (CorAcc (corK rs n i a2 t) q (400*i+20*t))/\Hid (OwnR wr w.heap.size 66 4 v3 q (corK rs n i a2 t))/\Hid (Below w.heap.size w wr)) (fun _ v6 _=>n - (intOf v6).toNat)
     case atStart=>exact ⟨0,q,by omega,by simp,HA,HO,HB⟩
     case round =>
      clear HA HO HB;obtain ⟨t,q,hk,rfl,HA,HO,HB⟩:=hrel;by_cases hlk:i+1+t<n
      ·have HK1:=q_ (show corK rs n i a2 (t+1)=corM rs n i (i+1+t) (corK rs n i a2 t) (n - (i+1+t+1)) from corK_s i a2 t)
       obtain ⟨a3,ha3⟩:∃ a,corK rs n i a2 t=a:=⟨_,rfl⟩;rw [ha3] at HA HO HK1;obtain ⟨k,ek⟩:∃ k,i+1+t=k:=⟨_,rfl⟩;have ek':(i:Int)+1+(t:Int)=(k:Int):=by omega
       rw [ek] at HK1 hlk;rw [ek'];have kk:(k:Int)<(n:Int):=by omega
       have ekk:IntKind.i64.wrap ((k:Int)+1)=(k:Int)+1:=iW (by omega);clear ha3;go_wp2;go_loopw [3,7] (fun v3 v7 wr=>∃ j q:Nat,k+1+j<=n/\v7 = .int .i64 ((k:Int)+1+j)/\Hid (CorAcc (corM rs n i k a3 j) q (400*i+20*t+j))/\Hid (OwnR wr w.heap.size 66 4 v3 q (corM rs n i k a3 j))/\Hid (Below w.heap.size w wr)) (fun _ v7 _=>n - (intOf v7).toNat)
       case atStart=>exact ⟨0,q,by omega,by simp,HA,HO,HB⟩
       case round =>
        clear HA HO HB;obtain ⟨j,q,hm,rfl,HA,HO,HB⟩:=hrel;by_cases hlm:k+1+j<n
        ·have HM1:=q_ (show corM rs n i k a3 (j+1)=crStep rs n i k (k+1+j) (corM rs n i k a3 j) from corM_s i k a3 j)
         obtain ⟨a4,ha4⟩:∃ a,corM rs n i k a3 j=a:=⟨_,rfl⟩;rw [ha4] at HA HO HM1;obtain ⟨m,em⟩:∃ m,k+1+j=m:=⟨_,rfl⟩;have em':(k:Int)+1+(j:Int)=(m:Int):=by omega
         rw [em] at HM1 hlm;rw [em'];have mm:(m:Int)<(n:Int):=by omega
         have emm:IntKind.i64.wrap ((m:Int)+1)=(m:Int)+1:=iW (by omega);clear ha4;obtain ⟨b,off,rfl,hbB,hc⟩:=HL.out.2 (by omega);have hc':∀ x,x<n*4->wr.cell? ⟨b,off+x,none⟩=some (.int .i64 (nth rs x)):=fun x hx=>(HB.out.cell (by exact hbB)).trans (hc x hx)
         obtain ⟨x0,x1,x2,x3⟩:=rwCells hc' hli;obtain ⟨y0,y1,y2,y3⟩:=rwCells hc' hlk;obtain ⟨z0,z1,z2,z3⟩:=rwCells hc' hlm;clear hc hc';have hbk:b<wr.heap.size:=Nat.lt_of_lt_of_le hbB HB.out.size;obtain ⟨H,V,M,D,B,hcf,hve⟩:=cr_names rs n i k m a4;generalize nth rs (i*4)=pa at *
         generalize nth rs (i*4+1)=pb at *
         generalize nth rs (i*4+2)=pc at *
         generalize nth rs (i*4+3)=pd at *
         generalize nth rs (k*4)=qa at *
         generalize nth rs (k*4+1)=qb at *
         generalize nth rs (k*4+2)=qc at *
         generalize nth rs (k*4+3)=qd at *
         generalize nth rs (m*4)=ra at *
         generalize nth rs (m*4+1)=rb at *
         generalize nth rs (m*4+2)=rc at *
         generalize nth rs (m*4+3)=rd at *
         have HVE:=q_ hve;have HCF:=q_ hcf;clear hve hcf;obtain ⟨wk,rfl⟩:∃ wk:World,wk=wr:=⟨_,rfl⟩;go_upto_region 18 with fail
         go_cut [8,9] (fun s8 s9 wx=>∃ g:Nat,s8 = .pointer (some ⟨g,0,none⟩)/\s9 = .bool B/\wk.heap.size<=g/\Hid (Box4 wx g H V M D)/\Hid (Below wk.heap.size wk wx))
         case first =>
          refine wp_region_held_drew (S:=fun w'=>(w'.cell? ⟨b,off+i*4,none⟩=some (.int .i64 pa)/\w'.cell? ⟨b,off+i*4+1,none⟩=some (.int .i64 pb)/\w'.cell? ⟨b,off+i*4+2,none⟩=some (.int .i64 pc)/\w'.cell? ⟨b,off+i*4+3,none⟩=some (.int .i64 pd))/\(w'.cell? ⟨b,off+k*4,none⟩=some (.int .i64 qa)/\w'.cell? ⟨b,off+k*4+1,none⟩=some (.int .i64 qb)/\w'.cell? ⟨b,off+k*4+2,none⟩=some (.int .i64 qc)/\w'.cell? ⟨b,off+k*4+3,none⟩=some (.int .i64 qd))/\(w'.cell? ⟨b,off+m*4,none⟩=some (.int .i64 ra)/\w'.cell? ⟨b,off+m*4+1,none⟩=some (.int .i64 rb)/\w'.cell? ⟨b,off+m*4+2,none⟩=some (.int .i64 rc)/\w'.cell? ⟨b,off+m*4+3,none⟩=some (.int .i64 rd))) (by kernel_rfl) (by exact ⟨⟨x0,x1,x2,x3⟩,⟨y0,y1,y2,y3⟩,⟨z0,z1,z2,z3⟩⟩) (fun hHeld => ?_);refine tk 0 54 rfl rfl ?_;try simp only [Act.put,ly3]
          refine tk 1 55 rfl rfl ?_;try simp only [Act.put,ly3]
          refine tk 2 56 rfl rfl ?_;try simp only [Act.put,ly3]
          refine tk 3 57 rfl rfl ?_;try simp only [Act.put,ly3]
          refine tk 4 58 rfl rfl ?_;try simp only [Act.put,ly3]
          refine tk 5 59 rfl rfl ?_;try simp only [Act.put,ly3]
          refine tk 6 60 rfl rfl ?_;try simp only [Act.put,ly3]
          refine tk 7 61 rfl rfl ?_;try simp only [Act.put,ly3]
          refine tk 8 62 rfl rfl ?_;try simp only [Act.put,ly3]
          refine tk 9 63 rfl rfl ?_;try simp only [Act.put,ly3]
          refine tk 10 64 rfl rfl ?_;try simp only [Act.put,ly3]
          refine tk 11 65 rfl rfl ?_;try simp only [Act.put,ly3]
          refine rd2 12 16 rfl rfl (fun K hK=>?_) fun K hK=>?_
          ·go_simp
           (with_reducible refine (sSolve_any _ _ _ _ _ _ _ _ _ _ _ _ _).mono ?_)
           rintro e w1 ⟨rfl,hb1⟩;rw [HVE.out,thrV];refine hK.out _ _ (by exact keep12 (by assumption) (fun x=>hb1.cell (p:=⟨b,x,none⟩) (by first | exact hbk | (simp; omega)))) (fun hHeld => ?_)
           clear hK K;try simp only [Act.put,ly3]
           refine tk 13 53 rfl rfl ?_;try simp only [Act.put,ly3]
           refine tk 14 67 rfl rfl ?_;try simp only [Act.put,ly3]
           refine tk 15 68 rfl rfl ?_;try simp only [Act.put,ly3]
           refine rd1 16 rfl fun K hK=>?_;go_simp
           refine hK.out _ _ (by exact keep12 (by assumption) (fun x=>cell_alloc_lt (by have:=hb1.size; simp at this; omega))) (fun hHeld => ?_)
           clear hK K;try simp only [Act.put,ly3]
           refine rd1 17 rfl fun K hK=>?_;go_simp
           refine hK.out _ _ (by exact keep12 (by assumption) (fun x=>(cell_alloc_lt (by have:=hb1.size; simp at this; omega)).trans (cell_alloc_lt (by have:=hb1.size; simp at this; omega)).symm)) (fun hHeld => ?_)
           clear hK K;try simp only [Act.put,ly3]
           refine tk 18 9 rfl rfl ?_;try simp only [Act.put,ly3]
           refine wpAnyH_done (by kernel_rfl) ?_ _;go_wp2_with fail
           go_meet
           have hz1:=hb1.size;simp at hz1;exact ⟨w1.heap.size,rfl,rfl,by omega,q_ (Box4.new _ _ _ _ _ _),q_ (((below_drewN (Below.refl wk.heap.size wk) 1).trans (hb1.mono (by simp))).alloc (by omega) _)⟩
          ·go_simp
           refine hK.out _ _ (by exact keep12 (by assumption) (fun x=>cell_alloc_lt (by exact hbk))) (fun hHeld => ?_);clear hK K;try simp only [Act.put,ly3]
           refine rd1 12 rfl fun K hK=>?_;go_simp
           (with_reducible refine (sSolve_any _ _ _ _ _ _ _ _ _ _ _ _ _).mono ?_)
           rintro e w1 ⟨rfl,hb1⟩;rw [HVE.out,thrV];have HVW:Hid (RowF w1 wk.heap.size 66 4 (fun _ => .int .i64 0)):=q_ ((show RowF _ wk.heap.size 66 4 (fun _ => .int .i64 0) from RowF.of_row (World.rowIs_alloc wk.drew #[.int .i64 0,.int .i64 0,.int .i64 0,.int .i64 0] 66 (fun _ => .int .i64 0) (fun i hi=>by simp at hi; match i,hi with | 0,_=>rfl | 1,_=>rfl | 2,_=>rfl | 3,_=>rfl))).after hb1)
           refine hK.out _ _ (by exact keep12 (by assumption) (fun x=>hb1.cell (p:=⟨b,x,none⟩) (by simp; omega))) (fun hHeld => ?_)
           clear hK K;try simp only [Act.put,ly3]
           refine tk 13 53 rfl rfl ?_;try simp only [Act.put,ly3]
           refine tk 14 67 rfl rfl ?_;try simp only [Act.put,ly3]
           refine tk 15 68 rfl rfl ?_;try simp only [Act.put,ly3]
           have u0:w1.cell? ⟨wk.heap.size,0,none⟩=some (.int .i64 0):=HVW.out.cell (i:=0) (by omega);have u1:w1.cell? ⟨wk.heap.size,1,none⟩=some (.int .i64 0):=HVW.out.cell (i:=1) (by omega);have u2:w1.cell? ⟨wk.heap.size,2,none⟩=some (.int .i64 0):=HVW.out.cell (i:=2) (by omega);have u3:w1.cell? ⟨wk.heap.size,3,none⟩=some (.int .i64 0):=HVW.out.cell (i:=3) (by omega);have f0:=HVW.out.frozen 0;have f1:=HVW.out.frozen 1;have f2:=HVW.out.frozen 2;have f3:=HVW.out.frozen 3;have hs:=RowF.lt HVW.out;have hz1:=hb1.size;simp at hz1;refine rd1 17 rfl fun K hK=>?_;go_simp
           refine hK.out _ _ (by exact keep12 (by assumption) (fun x=>(World.cell?_setCell_far _ _ _ _ (by first | (simp; done) | (simp; omega) | omega)).trans ((World.cell?_setCell_far _ _ _ _ (by first | (simp; done) | (simp; omega) | omega)).trans ((World.cell?_setCell_far _ _ _ _ (by first | (simp; done) | (simp; omega) | omega)).trans ((World.cell?_setCell_far _ _ _ _ (by first | (simp; done) | (simp; omega) | omega)).trans (rfl)))))) (fun hHeld => ?_)
           clear hK K;try simp only [Act.put,ly3]
           refine tk 18 9 rfl rfl ?_;try simp only [Act.put,ly3]
           refine wpAnyH_done (by kernel_rfl) ?_ _;go_wp2_with fail
           go_meet
           have HV4:=q_ (((HVW.out.set 0 (.int .i64 H)).set 1 (.int .i64 V)).set 2 (.int .i64 M) |>.set 3 (.int .i64 D));exact ⟨wk.heap.size,rfl,rfl,Nat.le_refl _,q_ ⟨⟨HV4.out.cell (i:=0) (by omega),HV4.out.cell (i:=1) (by omega),HV4.out.cell (i:=2) (by omega),HV4.out.cell (i:=3) (by omega)⟩,by simpa using hs⟩,q_ (below_set4 (((below_drewN (Below.refl wk.heap.size wk) 1).alloc (Nat.le_refl _) _).trans (hb1.mono (by simp))) (Nat.le_refl _) _ _ _ _)⟩
         case rest =>
         obtain ⟨g,rfl,rfl,hg,HBX,HBW⟩:=hcut;have HOC:=q_ (HO.out.below HBW.out);have HBC:=q_ (below_then HB.out HBW.out);have hql:a4.length / 4=q:=by have:=HA.out.len; omega
         clear x0 x1 x2 x3 y0 y1 y2 y3 z0 z1 z2 z3 HVE HO HB HBW hbk;cases B
         ·have HEQ:=q_ (HCF.out.no rfl)
          have HAX:Hid (CorAcc (corM rs n i k a3 (j+1)) q (400*i+20*t+(j+1))):=by rw [HM1.out,HEQ.out]; exact q_ ⟨HA.out.len,by have:=HA.out.few; omega⟩
          have HOX:=HOC;rw [<- HM1.out.trans HEQ.out] at HOX;go_wp2;go_roundw
          case rel=>exact ⟨j+1,q,by omega,by go_num,HAX,HOX,HBC⟩
          case measure=>simp [intOf]; omega
         have HTH:=q_ (HCF.out.thr rfl);obtain ⟨A3,c3,rfl,hc3⟩:=HOC.out.slice;have HRC:=q_ HOC.out.recs;obtain ⟨t0,t1,t2,t3⟩:=HBX.out.1;have hq8:q<=8000:=by have:=HA.out.few; omega
         go_wp2_with fail
         refine (l11Has_any _ _ _ _ _ _ _ _ _ HRC.out (by omega)).mono ?_;rintro e w1 ⟨rfl,hb1⟩;have HO1:=q_ (HOC.out.below hb1);have HB1:=q_ (below_then HBC.out hb1);have HX1:=q_ (HBX.out.after hb1);clear t0 t1 t2 t3 hb1 HOC HBC HBX HRC;cases hh:hasTo a4 H V M D q;rotate_left
         ·have HEQ:=q_ (HCF.out.has (by rw [hql]; exact hh))
          have HAX:Hid (CorAcc (corM rs n i k a3 (j+1)) q (400*i+20*t+(j+1))):=by rw [HM1.out,HEQ.out]; exact q_ ⟨HA.out.len,by have:=HA.out.few; omega⟩
          have HOX:=HO1;rw [<- HM1.out.trans HEQ.out] at HOX;go_wp2;go_roundw
          case rel=>exact ⟨j+1,q,by omega,by go_num,HAX,HOX,HB1⟩
          case measure=>simp [intOf]; omega
         have HH:=q_ hh;clear hh;go_wp2;go_loopw [10,11] (fun v10 v11 wr=>∃ (x:Nat) (bb:Bool),x<=n/\v11 = .int .i64 x/\v10 = .bool bb/\Hid (bb=true->allTo (metAt rs H V M D) x)/\Hid (bb=false->allB (metAt rs H V M D) n=false)/\Hid (OwnR wr w.heap.size 66 4 (.slice A3 q c3) q a4)/\Hid (Box4 wr g H V M D)/\Hid (Below w.heap.size w wr)) (fun _ v11 _=>n - (intOf v11).toNat)
         case atStart=>exact ⟨0,true,Nat.zero_le _,rfl,rfl,q_ fun _=>allTo_0 _,q_ fun e=>absurd e (by simp),HO1,HX1,HB1⟩
         case round =>
          clear HO1 HX1 HB1;obtain ⟨x,bb,hx,rfl,rfl,HPT,HPF,HO,HX,HB⟩:=hrel;cases bb
          ·have HEQ:=q_ (HCF.out.all0 (HPF.out rfl))
           by_cases hlx:x<n
           ·have xx:(x:Int)<(n:Int):=by omega
            have HAX:Hid (CorAcc (corM rs n i k a3 (j+1)) q (400*i+20*t+(j+1))):=by rw [HM1.out,HEQ.out]; exact q_ ⟨HA.out.len,by have:=HA.out.few; omega⟩
            have HOX:=HO;rw [<- HM1.out.trans HEQ.out] at HOX;go_wp2;go_roundw
            case rel=>exact ⟨j+1,q,by omega,by go_num,HAX,HOX,HB⟩
            case measure=>simp [intOf]; omega
           ·have xx:¬ (x:Int)<(n:Int):=by omega
            have HAX:Hid (CorAcc (corM rs n i k a3 (j+1)) q (400*i+20*t+(j+1))):=by rw [HM1.out,HEQ.out]; exact q_ ⟨HA.out.len,by have:=HA.out.few; omega⟩
            have HOX:=HO;rw [<- HM1.out.trans HEQ.out] at HOX;go_wp2;go_roundw
            case rel=>exact ⟨j+1,q,by omega,by go_num,HAX,HOX,HB⟩
            case measure=>simp [intOf]; omega
          by_cases hlx:x<n
          ·have xx:(x:Int)<(n:Int):=by omega
           obtain ⟨b',off',eA,hbB',hc⟩:=HL.out.2 (by omega);simp only [Option.some.injEq,Addr.mk.injEq,and_true] at eA;obtain ⟨rfl,rfl⟩:=eA;have hc':∀ y,y<n*4->wr.cell? ⟨b,off+y,none⟩=some (.int .i64 (nth rs y)):=fun y hy=>(HB.out.cell (by exact hbB')).trans (hc y hy)
           obtain ⟨x0,x1,x2,x3⟩:=rwCells hc' hlx;have hro:=(HP0 x hlx);have hside:=sideBd (a:=nth rs (x*4)) (b:=nth rs (x*4+1)) (c:=nth rs (x*4+2)) (d:=nth rs (x*4+3)) HTH.out hro;have HSI:=q_ hside;have HME:Hid (metAt rs H V M D x=metB (nth rs (x*4)) (nth rs (x*4+1)) (nth rs (x*4+2)) (nth rs (x*4+3)) H V M D):=rfl;have HTS:=q_ (fun e=>allTo_step (HPT.out rfl) (k:=x) e);have HFS:=q_ (fun e=>allB_f (p:=metAt rs H V M D) hlx e);clear hc hc' hro hside;generalize nth rs (x*4)=p0 at *
           generalize nth rs (x*4+1)=p1 at *
           generalize nth rs (x*4+2)=p2 at *
           generalize nth rs (x*4+3)=p3 at *
           obtain ⟨t0,t1,t2,t3⟩:=HX.out.1;have hbk:b<wr.heap.size:=Nat.lt_of_lt_of_le hbB' HB.out.size;have hgk:=HX.out.2;go_wp2;refine wp_region_held_drew (S:=fun w'=>(w'.cell? ⟨b,off+x*4,none⟩=some (.int .i64 p0)/\w'.cell? ⟨b,off+x*4+1,none⟩=some (.int .i64 p1)/\w'.cell? ⟨b,off+x*4+2,none⟩=some (.int .i64 p2)/\w'.cell? ⟨b,off+x*4+3,none⟩=some (.int .i64 p3))/\(w'.cell? ⟨g,0,none⟩=some (.int .i64 H)/\w'.cell? ⟨g,1,none⟩=some (.int .i64 V)/\w'.cell? ⟨g,2,none⟩=some (.int .i64 M)/\w'.cell? ⟨g,3,none⟩=some (.int .i64 D))) (by kernel_rfl) (by exact ⟨⟨x0,x1,x2,x3⟩,⟨t0,t1,t2,t3⟩⟩) (fun hHeld => ?_);refine tk 0 85 rfl rfl ?_;try simp only [Act.put,ly3]
           refine tk 1 86 rfl rfl ?_;try simp only [Act.put,ly3]
           refine tk 2 87 rfl rfl ?_;try simp only [Act.put,ly3]
           refine tk 3 88 rfl rfl ?_;try simp only [Act.put,ly3]
           refine tk 4 89 rfl rfl ?_;try simp only [Act.put,ly3]
           refine rd1 5 rfl fun K hK=>?_;go_simp
           (with_reducible refine (l10Holds_any _ _ _ _ _ _ _ _ _ HSI.out).mono ?_); rintro e w5 ⟨rfl,hb5⟩; have HBn:=q_ (below_then (below_dr (Below.refl wr.heap.size wr)) hb5);refine hK.out _ _ (by exact ⟨⟨(HBn.out.cell (by exact hbk)).trans x0,(HBn.out.cell (by exact hbk)).trans x1,(HBn.out.cell (by exact hbk)).trans x2,(HBn.out.cell (by exact hbk)).trans x3⟩,⟨(HBn.out.cell (by exact hgk)).trans t0,(HBn.out.cell (by exact hgk)).trans t1,(HBn.out.cell (by exact hgk)).trans t2,(HBn.out.cell (by exact hgk)).trans t3⟩⟩) (fun hHeld => ?_);clear hK K;try simp only [Act.put,ly3]
           refine tk 6 10 rfl rfl ?_;try simp only [Act.put,ly3]
           refine wpAnyH_done (by kernel_rfl) ?_ _;have HO5:=q_ (HO.out.below HBn.out);have HX5:=q_ (HX.out.after HBn.out);have HB5:=q_ (below_then HB.out HBn.out);clear x0 x1 x2 x3 t0 t1 t2 t3 hb5 hHeld HO HX HB HBn hbk hgk;rw [<- HME.out];have HPT5:Hid (metAt rs H V M D x=true->allTo (metAt rs H V M D) (x+1)):=HTS;have HPF5:Hid (metAt rs H V M D x=false->allB (metAt rs H V M D) n=false):=HFS;clear HTS HFS HME;generalize metAt rs H V M D x=bb at *
           go_wp2;go_roundw
           case rel=>exact ⟨x+1,bb,by omega,by go_num,rfl,HPT5,HPF5,HO5,HX5,HB5⟩
           case measure=>simp [intOf]; omega
          ·obtain rfl:n=x:=by omega
           have xx:¬ (n:Int)<(n:Int):=by omega
           have HEQ:=q_ (HCF.out.yes rfl (by rw [hql]; exact HH.out) (allB_t (HPT.out rfl)));obtain ⟨t0,t1,t2,t3⟩:=HX.out.1;have hcn:∀ y,y<1*4->(wr.alloc (.cells #[.int .i64 H,.int .i64 V,.int .i64 M,.int .i64 D] 66)).cell? ⟨wr.heap.size,y,none⟩=some (.int .i64 (nth [H,V,M,D] y)):=fun y hy =>
            World.rowIs.cell (World.rowIs_alloc wr #[.int .i64 H,.int .i64 V,.int .i64 M,.int .i64 D] 66 (ints [H,V,M,D]) (fun i hi=>by simp at hi; match i,hi with | 0,_=>rfl | 1,_=>rfl | 2,_=>rfl | 3,_=>rfl)) (by simpa using hy)
           have HCN:=q_ hcn;have HBA:=q_ (HB.out.alloc HB.out.size (.cells #[.int .i64 H,.int .i64 V,.int .i64 M,.int .i64 D] 66));have hW0:w.heap.size<=(wr.alloc (.cells #[.int .i64 H,.int .i64 V,.int .i64 M,.int .i64 D] 66)).heap.size:=HBA.out.size;have HXX:Hid (a4 ++ [H,V,M,D]=corM rs n i k a3 (j+1)):=q_ (by rw [HM1.out,HEQ.out]);have HAX:Hid (CorAcc (corM rs n i k a3 (j+1)) (q+1) (400*i+20*t+(j+1))):=by rw [HM1.out,HEQ.out]; exact q_ ⟨by simp [HA.out.len]; omega,by have:=HA.out.few; omega⟩
           clear hcn;go_wp2_with (at_builtin; refine wpList_appR _ rfl (.tmp 92) (.tmp 94) 71 rfl w.heap.size 66 4 32 #[.int .i64 0,.int .i64 0,.int .i64 0,.int .i64 0] Tryzx.underlying71 infoThr rfl (by decide) (by decide) _ q a4 rfl (by exact HO.out.alloc _) wr.heap.size 1 1 [H,V,M,D] rfl rfl (by exact HCN.out) (by omega) w.heap.size w (by exact HBA.out) (Nat.le_refl _) hW0 _ HXX.out ?_ (by omega); intro g' cap' w7 hown7 hb7; have HO7:=q_ hown7; have HB7:=q_ hb7);go_roundw
           case rel=>exact ⟨j+1,q+1,by omega,by go_num,HAX,HO7,HB7⟩
           case measure=>simp [intOf]; omega
        ·obtain rfl:n - (k+1)=j:=by omega
         have e7:(k:Int)+1+((n - (k+1):Nat):Int)=(n:Int):=by omega
         have nn:¬ (n:Int)<(n:Int):=by omega
         have HA1:Hid (CorAcc (corK rs n i a2 (t+1)) q (400*i+20*(t+1))):=by rw [HK1.out]; exact q_ ⟨HA.out.len,by have:=HA.out.few; omega⟩
         have HO1:=HO;rw [<- HK1.out] at HO1;have e6:(k:Int)+1=(i:Int)+1+((t+1:Nat):Int):=by omega
         rw [e7];go_wp2;go_roundw
         case rel=>exact ⟨t+1,q,by omega,by first | rw [e6] | go_num,HA1,HO1,HB⟩
         case measure=>simp [intOf]; omega
      ·obtain rfl:n - (i+1)=t:=by omega
       have e7:(i:Int)+1+((n - (i+1):Nat):Int)=(n:Int):=by omega
       have nn:¬ (n:Int)<(n:Int):=by omega
       have HA1:Hid (CorAcc (corI rs n (i+1)) q (400*(i+1))):=by rw [HI1.out]; exact q_ ⟨HA.out.len,by have:=HA.out.few; omega⟩
       have HO1:=HO;rw [<- HI1.out] at HO1;rw [e7];go_wp2;go_roundw
       case rel=>exact ⟨i+1,q,by omega,by go_num,HA1,HO1,HB⟩
       case measure=>simp [intOf]; omega
    ·obtain rfl:n=i:=by omega
     have nn:¬ (n:Int)<(n:Int):=by omega
     have hq:cornN rs n=q:=by have:=HA.out.len; rw [cornN,cornL_t HCT.out]; omega
     have HO1:=HO;rw [<- cornL_t HCT.out] at HO1;obtain ⟨A9,c9,rfl,_⟩:=HO1.out.slice;go_wp2;go_ret;exact ⟨.slice A9 q c9,rfl,by first | exact HO1.out | (rw [hq]; exact HO1.out),HB.out⟩
end X
section
open Go.RowKit
def capOf (t:Nat->Question->Nat) (d need:Nat) (E:TypeId):Nat:=(Question.appendCap need 0 E).cut (t d (.appendCap need 0 E))
theorem capOf_ge (t:Nat->Question->Nat) (d need:Nat) (E:TypeId):need<=capOf t d need E:=by simp [capOf,Question.cut]
theorem capOf_le (t:Nat->Question->Nat) (d need:Nat) (E:TypeId) (h:need<=maxLen):capOf t d need E<=maxLen:=by
 have hlt:=Nat.mod_lt (t d (.appendCap need 0 E)) (show 0<2 ^ 63 - need by simp only [maxLen] at h; omega)
 simp only [capOf,Question.cut,maxLen] at h ⊢;omega
theorem capOf_set {need c:Nat} (E:TypeId) (h1:need<=c) (h2:c<=maxLen) (d:Nat):capOf (fun _ q=>match q with | .appendCap _ _ _=>c - need | _=>0) d need E=c:=by
 simp only [capOf,Question.cut,maxLen] at h2 ⊢;rw [Nat.mod_eq_of_lt (by omega)];omega
theorem run_eqNil {P:Program} {t e:TypeId} (h:P.underlying t=some (.slice e)) (A:Option Addr) (n c:Nat) (w:World):(binOp .eql t (.slice A n c) (.slice none 0 0)).run P w = .ok (.bool A.isNone) w:=by
 have hb:binOp .eql t (.slice A n c) (.slice none 0 0)=(Op.equal t (.slice A n c) (.slice none 0 0) >>= fun x=>pure (.bool x)):=rfl;have he:(Op.equal t (.slice A n c) (.slice none 0 0)).run P w = .ok A.isNone w:=by
  show (Op.equalIn (9999+1) t (.slice A n c) (.slice none 0 0)).run P w=_
  rw [Op.equalIn.eq_2,Sem.run_bind,run_underlying h];cases A <;> rfl
 rw [hb,Sem.run_bind,he];rfl
theorem wpList_appB {P:Program} (w:World) {ops:Array Oper} {rest:List Oper} {o:Oper} {a:Act} {Q:Exit->Act->World->Prop} (hgd:o.guard=none) (s x:Operand) (t:TypeId)
  (ho:o.op = .call { callee := .builtin .append,args := #[s,x],argTypes := #[t,t] })
  (E:TypeId) (K bytes:Nat) (zc:Array Value) (ht:P.underlying t=some (.slice E)) (hinfo:(P.info? E).map (fun i=>(i.zero,i.size,i.bytes))=some (some (.agg zc),K,bytes)) (hzc:zc.size=K) (hK:0<K) (hby:bytes<=1024)
  (hs:a.eval s = .slice none 0 0) (A:Option Addr) (q c:Nat) (hx:a.eval x = .slice A q c) (ys:List Int) (hy:RecsAt w w.heap.size K A q ys) (hn:q<=1048576)
  (h:∀ v' w',(q=0/\v' = .slice none 0 0/\w'=w) ∨ (1<=q/\v' = .slice (some ⟨w.heap.size,0,none⟩) q (capOf w.tape w.drawn q E)/\w'=w.drew.alloc (.cells ((ys.map (Value.int .i64)).toArray ++ Builtin.zeroCells zc (capOf w.tape w.drawn q E - q)) E (0,0))) ->
   wpList P ops Q rest (a.put o.dst v') w'):wpList P ops Q (o :: rest) a w:=by
 obtain ⟨i0,hi0,hz0,hz1,hz2⟩:=info_parts hinfo;refine wpList_plain hgd fun _ hK' => ?_
 rcases Nat.eq_zero_or_pos q with e | e
 ·subst e
  have hr:(Builtin.append_ #[t,t] o.type #[.slice none 0 0,.slice A 0 c]).run P w = .ok (.slice none 0 0) w:=by
   cases A with
   | none=>simp [Builtin.append_,run_underlying ht,sizeOf,typeInfo,hi0,Builtin.lenOf,Builtin.firstCells,loadCells,loadCellsFrom]
   | some a=>simp [Builtin.append_,run_underlying ht,sizeOf,typeInfo,hi0,Builtin.lenOf,Builtin.firstCells,loadCells,loadCellsFrom]
  unfold Oper.wp execOp;simp only [ho,resolve,invoke,builtin,Sem.run_bind,Sem.run_pure,Result.andThen_ok,List.map_toArray,List.map_cons,List.map_nil,hs,hx,hr];exact hK' _ _ (h _ _ (.inl ⟨rfl,rfl,rfl⟩))
 ·obtain ⟨b,off,rfl,hb,hc⟩:=hy.2 e
  have hnews:∀ j u,(ys.map (Value.int .i64))[j]?=some u->w.cell? ((⟨b,off,none⟩:Addr).add j)=some u:=by
   intro j u hj;have hjl:j<ys.length:=by
    have:=(List.getElem?_eq_some_iff.1 hj).1;simpa using this
   rw [List.getElem?_map,List.getElem?_eq_getElem hjl] at hj;simp at hj;subst hj;rw [Go.WideShapes.add_plain,hc j (by rw [<- hy.1]; exact hjl),nth_get ys j hjl]
  have hqb:q*bytes<=1048576*1024:=Nat.mul_le_mul hn hby;have hr:=run_append_nil (P:=P) w t o.type E i0 (.agg zc) ht hi0 hz0 ⟨b,off,none⟩ q c (ys.map (Value.int .i64)) (by rw [hz1]; simpa using hy.1) hnews e (by omega) (by rw [hz2]; omega)
  unfold Oper.wp execOp;simp only [ho,resolve,invoke,builtin,Sem.run_bind,Sem.run_pure,Result.andThen_ok,List.map_toArray,List.map_cons,List.map_nil,hs,hx,hr];exact hK' _ _ (h _ _ (.inr ⟨e,rfl,rfl⟩))
end
namespace X
open Go.RowKit
def XEnd (w':World) (base:Nat) (v:Value) (rs:List Int) (n:Nat):Prop :=
 (v = .slice none 0 0/\cornL rs n = []) ∨ ∃ g d,base<=g/\1<=cornN rs n/\v = .slice (some ⟨g,0,none⟩) (cornN rs n) (capOf w'.tape d (cornN rs n) 66) /\
  w'.heap[g]?=some (.cells (((cornL rs n).map (Value.int .i64)).toArray ++ Builtin.zeroCells #[.int .i64 0,.int .i64 0,.int .i64 0,.int .i64 0] (capOf w'.tape d (cornN rs n) 66 - cornN rs n)) 66 (0,0))
theorem XEnd.own {w':World} {base:Nat} {v:Value} {rs:List Int} {n:Nat} (h:XEnd w' base v rs n):OwnR w' base 66 4 v (cornN rs n) (cornL rs n):=by
 have hl:=(corn_acc rs n).len;have hf:=(corn_acc rs n).few;rcases h with ⟨rfl,e⟩ | ⟨g,d,hg,hq,rfl,hh⟩
 ·rw [cornN,e]; exact OwnR.nil _ _ _ _
 ·refine ⟨⟨by simp [hl],.inr ⟨g,_,_,rfl,hg,hh,capOf_ge ..,capOf_le _ _ _ _ (by unfold maxLen; omega),?_,?_⟩⟩,hl⟩
  ·have:=capOf_ge w'.tape d (cornN rs n) 66
   rw [Array.size_append,size_zeroCells];simp only [List.size_toArray,List.length_map,hl,List.length_cons,List.length_nil,Nat.reduceAdd];omega
  ·rw [Array.toList_append]
   simp only [hl.symm];rw [show (cornL rs n).length=(((cornL rs n).map (Value.int .i64)).toArray.toList).length by simp,List.take_left]
theorem xCorners_any (A:Option Addr) (n c:Nat) (rs:List Int) (w:World) (h:RecsAt w w.heap.size 4 A n rs) (hn:n<=1048576) (hA:n=0->A=none) :
  Calls Tryzx.prog 87 #[.slice A n c] w fun e w'=>∃ v,e = .returned v/\XEnd w' w.heap.size v rs n/\Below w.heap.size w w':=by
 have HL:=q_ h;clear h;have nlt:(n:Int)<1048577:=by omega
 have HAN:=q_ hA;clear hA;go_enter Tryzx.func87,Tryzx.ntmps87;unfold Tryzx.bodyX;go_wp2;go_loopw [1] (fun v1 wr=>∃ i:Nat,i<=n/\v1 = .int .i64 i/\Hid (Below w.heap.size w wr)) (fun v1 _=>n - (intOf v1).toNat)
 case atStart=>exact ⟨0,Nat.zero_le _,rfl,q_ (Below.refl _ _)⟩
 case round =>
  obtain ⟨i,hi,rfl,HB⟩:=hrel;by_cases hli:i<n
  ·have ii:(i:Int)<(n:Int):=by omega
   obtain ⟨b,off,rfl,hbB,hc⟩:=HL.out.2 (by omega);obtain ⟨x0,x1,x2,x3⟩:=rwCells (fun i hi=>(HB.out.cell (by exact hbB)).trans (hc i hi)) hli;clear hc;generalize nth rs (i*4)=y0 at *
   generalize nth rs (i*4+1)=y1 at *
   generalize nth rs (i*4+2)=y2 at *
   generalize nth rs (i*4+3)=y3 at *
   go_wp2;go_roundw
   case rel=>exact ⟨i+1,by omega,by go_num,HB⟩
   case measure=>simp [intOf]; omega
  ·obtain rfl:n=i:=by omega
   have nn:¬ (n:Int)<(n:Int):=by omega
   have HLR:=q_ (HL.out.after HB.out);by_cases h0:n=0
   ·subst h0
    obtain rfl:=HAN.out rfl;have heq:∀ u:World,(binOp .eql 103 (.slice none 0 c) (.slice none 0 0)).run Tryzx.prog u = .ok (.bool true) u:=fun u=>run_eqNil Tryzx.underlying103 none 0 c u
    go_wp2_with fail
    refine (sCorners_any _ _ _ rs _ HLR.out (by omega)).mono ?_;rintro e w1 ⟨v,rfl,hown,hb1⟩;have HB1:=q_ (below_then HB.out hb1);obtain ⟨A9,c9,rfl,hc9⟩:=hown.slice;have HR9:=q_ hown.recs;have HF9:=q_ ((corn_acc rs 0).few);have HE9:=q_ ((corn_acc rs 0).len);clear hown hb1;go_wp2_with (at_builtin; refine wpList_appB _ rfl (.const (.slice none 0 0)) (.tmp 9) 71 rfl 66 4 32 #[.int .i64 0,.int .i64 0,.int .i64 0,.int .i64 0] Tryzx.underlying71 infoThr rfl (by decide) (by decide) rfl A9 _ c9 rfl (cornL rs 0) (by exact HR9.out) (by have:=HF9.out; omega) ?_; intro v' w' hend; have HEND:=q_ hend; clear hend);go_ret;rcases HEND.out with ⟨hq,rfl,rfl⟩ | ⟨hq,rfl,rfl⟩
    ·exact ⟨_,rfl,.inl ⟨rfl,List.eq_nil_of_length_eq_zero (by have:=HE9.out; omega)⟩,HB1.out⟩
    ·have hs:=HB1.out.size
     exact ⟨_,rfl,.inr ⟨_,_,hs,hq,rfl,heap_alloc_new w1.drew _⟩,(below_dr HB1.out).alloc (by simpa using hs) _⟩
   ·have n0:((n:Int) == 0)=false:=by simp; omega
    go_wp2_with fail
    refine (sCorners_any _ _ _ rs _ HLR.out (by omega)).mono ?_;rintro e w1 ⟨v,rfl,hown,hb1⟩;have HB1:=q_ (below_then HB.out hb1);obtain ⟨A9,c9,rfl,hc9⟩:=hown.slice;have HR9:=q_ hown.recs;have HF9:=q_ ((corn_acc rs n).few);have HE9:=q_ ((corn_acc rs n).len);clear hown hb1;go_wp2_with (at_builtin; refine wpList_appB _ rfl (.const (.slice none 0 0)) (.tmp 9) 71 rfl 66 4 32 #[.int .i64 0,.int .i64 0,.int .i64 0,.int .i64 0] Tryzx.underlying71 infoThr rfl (by decide) (by decide) rfl A9 _ c9 rfl (cornL rs n) (by exact HR9.out) (by have:=HF9.out; omega) ?_; intro v' w' hend; have HEND:=q_ hend; clear hend);go_ret;rcases HEND.out with ⟨hq,rfl,rfl⟩ | ⟨hq,rfl,rfl⟩
    ·exact ⟨_,rfl,.inl ⟨rfl,List.eq_nil_of_length_eq_zero (by have:=HE9.out; omega)⟩,HB1.out⟩
    ·have hs:=HB1.out.size
     exact ⟨_,rfl,.inr ⟨_,_,hs,hq,rfl,heap_alloc_new w1.drew _⟩,(below_dr HB1.out).alloc (by simpa using hs) _⟩
end X
namespace Rn
open Go.Conc
section
variable {P : Program} {b : Frame} {a : Act} {k : List Item} {cs : List Frame} {w : World}
theorem Ahead.seq {x y:Code} (h:Ahead P (b.at a (.code (.seq x y) :: k)) (cs ++ [Xb]) w) (hcs:cs ≠ []):Ahead P (b.at a (.code x :: .code y :: k)) (cs ++ [Xb]) w:=h.go hcs step_seq
theorem Ahead.region {id:Nat} {ops:Array Oper} (h:Ahead P (b.at a (.code (.region id ops false) :: k)) (cs ++ [Xb]) w) (hcs:cs ≠ []):Ahead P (b.at a (.inRegion ops (List.range ops.size) :: k)) (cs ++ [Xb]) w:=h.go hcs step_region
theorem Ahead.regionEnd {ops:Array Oper} (h:Ahead P (b.at a (.inRegion ops [] :: k)) (cs ++ [Xb]) w) (hcs:cs ≠ []):Ahead P (b.at a k) (cs ++ [Xb]) w:=h.go hcs step_region_end
theorem Ahead.cond {c:Operand} {x y:Code} {t:Bool} (h:Ahead P (b.at a (.code (.cond c x y) :: k)) (cs ++ [Xb]) w) (hcs:cs ≠ []) (ht:a.eval c = .bool t):Ahead P (b.at a (.code (if t then x else y) :: k)) (cs ++ [Xb]) w:=h.go hcs (step_cond ht)
theorem Ahead.skip (h:Ahead P (b.at a (.code .skip :: k)) (cs ++ [Xb]) w) (hcs:cs ≠ []):Ahead P (b.at a k) (cs ++ [Xb]) w:=h.go hcs step_skip
theorem Ahead.no_exit {f:FuncId} {ts:Array Value} {id:Nat} (h:Ahead P ((base f).at ⟨ts,[]⟩ (.code (.exit id) :: k)) (cs ++ [Xb]) w) (hcs:cs ≠ []) (he:exitTo id k=none):False:=by
 have hx:∃ o w1,(stepG P true (G (fra f ts (.code (.exit id) :: k) false) (cs ++ [Xb])) w).bare = .ended o w1:=⟨_,_,by simp [G,fra,stepG,stepG.exec,Frame.at,he,base]; first | rfl | exact ⟨rfl,rfl⟩⟩
 obtain ⟨o,w1,hx⟩:=hx;exact h.not_ended hcs (step_lone_ended hx)
theorem Ahead.val {f:FuncId} {ts:Array Value} {ops:Array Oper} {i:Nat} {rest:List Nat} {o:Oper} {v:Value} {w1:World} (h:Ahead P ((base f).at ⟨ts,[]⟩ (.inRegion ops (i :: rest) :: k)) (cs ++ [Xb]) w) (hcs:cs ≠ []) (ho:ops[i]?=some o) (hwn:Region.wanted o (yielded ops ts)=true)
  (hr:(execOp (Act.mk ts []).eval o).run P w = .ok (.value v) w1):Ahead P ((base f).at ((Act.mk ts []).put o.dst v) (.inRegion ops rest :: k)) (cs ++ [Xb]) w1:=by
 have hki:(base f).kind ≠ .early:=by simp [base]
 have hst:stepG P true (G ((base f).at ⟨ts,[]⟩ (.inRegion ops (i :: rest) :: k)) (cs ++ [Xb])) w=_:=stepG_value ho hwn hki hr;exact h.go hcs (step_lone_go (by
   show (stepG P true (G ((base f).at ⟨ts,[]⟩ (.inRegion ops (i :: rest) :: k)) (cs ++ [Xb])) w).bare=_
   rw [hst]; rfl))
end
section
variable {noT : TypeId} {ws : List Win} {r : Ren} {cs : List Frame} {w : World} {k : List Item}
theorem mul_int {t:TypeId} {v u:Value} {w w1:World} (h:(binOp .mul t v (.int .i64 1)).run Tryzx.prog w = .ok u w1):∃ x,v = .int .i64 x/\w1=w:=by
 cases v with
 | int kd a =>
  by_cases e:kd = .i64
  ·subst e
   simp [binOp,Op.intArith] at h;exact ⟨a,rfl,h.2.symm⟩
  ·simp [binOp,e,stuck] at h
 | _=>simp [binOp,stuck,unsupported] at h
def fo0 : Oper := { dst := some 5, op := .indexAddr 103 (.tmp 0) (.tmp 1), type := 0, pos := "", after := #[], guard := none }
def fo1 (j : Nat) : Oper := { dst := some 6, op := .fieldAddr 133 (.tmp 5) j, type := 0, pos := "", after := #[{ on := 0, ground := .data }], guard := none }
def fo2 : Oper := { dst := some 7, op := .load 3 (.tmp 6), type := 3, pos := "", after := #[{ on := 1, ground := .data }], guard := none }
def fo3 : Oper := { dst := some 8, op := .binOp .mul 3 (.tmp 7) (.const (.int .i64 1)) 3, type := 3, pos := "", after := #[{ on := 2, ground := .data }], guard := none }
def fcode (id j:Nat):Code := .region id #[fo0,fo1 j,fo2,fo3] false
def T13 (x0 x1 x2 u3 u4 u5 u6 u7 u8 u9 u10 u11 u12:Value):Array Value := #[x0,x1,x2,u3,u4,u5,u6,u7,u8,u9,u10,u11,u12]
theorem index_run {A:Option Addr} {n c i:Nat} {w w1:World} {u:Value} (h:(Instr.indexAt 103 (.slice A n c) (.int .i64 i)).run Tryzx.prog w = .ok u w1):∃ a,A=some a/\i<n/\u = .pointer (some (a.add (i*4)))/\w1=w:=by
 have nb:∀ (kk:IntKind) (x y:Int) (cd:BoundsCode) (w:World) (u:Value) (w1:World),(boundsPanic kk x y cd:Sem Value).run Tryzx.prog w ≠ .ok u w1:=fun kk x y cd w u w1 e=>by
  refine (never_bounds (p:=Tryzx.prog) (α:=Value) kk x y cd).1 w #[] u w1 ((boundsPanic kk x y cd:Sem Value).runT Tryzx.prog w #[]).2 ?_;rw [<- e,<- Sem.runT_fst _ _ _ #[]]
 cases A with
 | none =>
  exfalso
  refine nb .i64 i 0 .index w u w1 ?_;rw [<- h];simp [Instr.indexAt,asIntOf,Sem.run_bind]
 | some a =>
  by_cases hi:i<n
  ·have ii:(i:Int)<(n:Int):=by omega
   simp [Instr.indexAt,asIntOf,Sem.run_bind,hi] at h;exact ⟨a,rfl,hi,h.1.symm,h.2.symm⟩
  ·exfalso
   have ii:¬ (i:Int)<(n:Int):=by omega
   refine nb .i64 i n .index w u w1 ?_;rw [<- h];simp [Instr.indexAt,asIntOf,Sem.run_bind,hi]
theorem field_run {a:Addr} {j:Nat} (hj:j<4) (w:World):(Instr.fieldAt 133 (.pointer (some a)) j).run Tryzx.prog w = .ok (.pointer (some (a.add j))) w:=by
 match j,hj with
 | 0,_=>simp [Instr.fieldAt,Instr.sureAddr,fieldPlace,Tryz.underlying133]
 | 1,_=>simp [Instr.fieldAt,Instr.sureAddr,fieldPlace,Tryz.underlying133]
 | 2,_=>simp [Instr.fieldAt,Instr.sureAddr,fieldPlace,Tryz.underlying133]
 | 3,_=>simp [Instr.fieldAt,Instr.sureAddr,fieldPlace,Tryz.underlying133]
theorem load_run {a:Addr} {w w1:World} {u:Value} (hk:(∃ c t z,w.heap[a.block]?=some (.cells c t z)) ∨ (∃ es k,w.heap[a.block]?=some (.map es k)) ∨ (∃ p l,w.heap[a.block]?=some (.number p l)) ∨ (∃ cap x cl s q tm,w.heap[a.block]?=some (.chan cap x cl s q tm)))
  (h:(Instr.loadAt 3 (.pointer (some a))).run Tryzx.prog w = .ok u w1):w.cell? a=some u/\w1=w:=by
 simp only [Instr.loadAt,Instr.sureAddr,loadVar,Sem.run_bind,Sem.run_pure,Result.andThen_ok,Tryzx.isAgg_x,Tryz.isAgg3,Bool.false_eq_true,if_false,load,Sem.run] at h;cases hc:w.cell? a with
 | some v =>
  simp only [hc] at h;cases h;exact ⟨rfl,rfl⟩
 | none =>
  exfalso
  simp only [hc,World.farLoad] at h;rcases hk with ⟨c,t,z,hk⟩ | ⟨es,k,hk⟩ | ⟨p,l,hk⟩ | ⟨_,_,_,_,_,_,hk⟩ <;> simp [hk] at h
theorem value_of {P:Program} {s:Sem Value} {w w1:World} {n:Next} (h:(s >>= fun v=>pure (Next.value v)).run P w = .ok n w1):∃ u,s.run P w = .ok u w1/\n = .value u:=by
 rw [Sem.run_bind] at h;cases hs:s.run P w with
 | ok u w2 =>
  rw [hs] at h;simp only [Result.andThen_ok,Sem.run_pure] at h;cases h;exact ⟨u,rfl,rfl⟩
 | halt hh wh=>rw [hs] at h; cases h
theorem fc_ok0:okOp Tryz.prog.toTables lawF lawD fo0=true:=by decide +kernel
theorem fc_ok2:okOp Tryz.prog.toTables lawF lawD fo2=true:=by decide +kernel
theorem fc_ok3:okOp Tryz.prog.toTables lawF lawD fo3=true:=by decide +kernel
theorem fc_ok {j:Nat} (hj:j<4):okOp Tryz.prog.toTables lawF lawD (fo1 j)=true:=by
 match j,hj with
 | 0,_=>decide +kernel
 | 1,_=>decide +kernel
 | 2,_=>decide +kernel
 | 3,_=>decide +kernel
theorem eqGuard_mul {w w1:World} {v u:Value} (h:(Go.eqGuard .mul 3 (.tmp 7) (.const (.int .i64 1)) v (.int .i64 1) >>= fun _=>binOp .mul 3 v (.int .i64 1)).run Tryzx.prog w = .ok u w1):(binOp .mul 3 v (.int .i64 1)).run Tryzx.prog w = .ok u w1:=by
 exact h
theorem fc_ahead {id j:Nat} (hj:j<4) {A:Option Addr} {n c i:Nat} {u3 u4 u5 u6 u7 u8 u9 u10 u11 u12:Value} (hcs:cs ≠ []) (hpl:∀ c ∈ cs,PlainF Tryzx.prog c)
  (h:Ahead Tryzx.prog ((base 87).at ⟨T13 (.slice A n c) (.int .i64 i) (.int .i64 n) u3 u4 u5 u6 u7 u8 u9 u10 u11 u12,[]⟩ (.code (fcode id j) :: k)) (cs ++ [Xb]) w)
  (hv:VAll (sctx noT ws) r (T13 (.slice A n c) (.int .i64 i) (.int .i64 n) u3 u4 u5 u6 u7 u8 u9 u10 u11 u12) (T13 (.slice A n c) (.int .i64 i) (.int .i64 n) u3 u4 u5 u6 u7 u8 u9 u10 u11 u12)) (hw:WR (sctx noT ws) r w w) :
  ∃ a y,A=some a/\i<n/\w.cell? ((a.add (i*4)).add j)=some (.int .i64 y)/\∃ v5 v6 v7 v8 r',Ahead Tryzx.prog ((base 87).at ⟨T13 (.slice A n c) (.int .i64 i) (.int .i64 n) u3 u4 v5 v6 v7 v8 u9 u10 u11 u12,[]⟩ k) (cs ++ [Xb]) w /\
   VAll (sctx noT ws) r' (T13 (.slice A n c) (.int .i64 i) (.int .i64 n) u3 u4 v5 v6 v7 v8 u9 u10 u11 u12) (T13 (.slice A n c) (.int .i64 i) (.int .i64 n) u3 u4 v5 v6 v7 v8 u9 u10 u11 u12)/\WR (sctx noT ws) r' w w:=by
 have hfn:∃ fn,(sctx noT ws).Px.funcs[(87:Nat)]?=some fn:=⟨_,Tryzx.func87⟩;have h:=h.region hcs;obtain ⟨n0,w0,r0,hr0,s0,hw0,k0⟩:=Ahead.op (S:=sctx noT ws) sok rfl h hcs hpl hfn (o:=fo0) rfl rfl fc_ok0 hv hw;obtain ⟨u0,hu0,rfl⟩:=value_of hr0;obtain ⟨a,rfl,hi,rfl,rfl⟩:=index_run hu0;obtain ⟨hv0,h0⟩:=k0 _ rfl;obtain ⟨n1,w1,r1,hr1,s1,hw1,k1⟩:=Ahead.op (S:=sctx noT ws) sok rfl h0 hcs hpl hfn (o:=fo1 j) rfl rfl (fc_ok hj) hv0 hw0;obtain ⟨u1,hu1,rfl⟩:=value_of hr1;have e1:=field_run (a:=a.add (i*4)) hj w0;rw [show (Instr.fieldAt 133 (.pointer (some (a.add (i*4)))) j).run Tryzx.prog w0 = .ok u1 w1 from hu1] at e1;cases e1;obtain ⟨hv1,h1⟩:=k1 _ rfl;obtain ⟨n2,w2,r2,hr2,s2,hw2,k2⟩:=Ahead.op (S:=sctx noT ws) sok rfl h1 hcs hpl hfn (o:=fo2) rfl rfl fc_ok2 hv1 hw1;obtain ⟨u2,hu2,rfl⟩:=value_of hr2;have hblk:∀ a':Addr,VR (sctx noT ws) r1 (.pointer (some a')) (.pointer (some a'))->(∃ c t z,w0.heap[a'.block]?=some (.cells c t z)) ∨ (∃ es k,w0.heap[a'.block]?=some (.map es k)) ∨ (∃ p l,w0.heap[a'.block]?=some (.number p l)) ∨ (∃ cap x cl s q tm,w0.heap[a'.block]?=some (.chan cap x cl s q tm)):=fun a' ha=>by
  cases ha with
  | ptr hab=>exact hw1.kind hab.1
 obtain ⟨hc2,rfl⟩:=load_run (hblk _ (hv1.get 6 _ _ rfl rfl)) hu2;obtain ⟨hv2,h2⟩:=k2 _ rfl;obtain ⟨n3,w3,r3,hr3,s3,hw3,k3⟩:=Ahead.op (S:=sctx noT ws) sok rfl h2 hcs hpl hfn (o:=fo3) rfl rfl fc_ok3 hv2 hw2;obtain ⟨u3',hu3,rfl⟩:=value_of hr3;have hm:∃ x,u2 = .int .i64 x/\w3=w2:=by
  exact mul_int (eqGuard_mul hu3)
 obtain ⟨y,rfl,rfl⟩:=hm;obtain ⟨hv3,h3⟩:=k3 _ rfl;exact ⟨a,y,rfl,hi,hc2,_,_,_,_,r3,h3.regionEnd hcs,hv3,hw3⟩
def lo1 : Oper := { dst := some 4, op := .binOp .lss 3 (.tmp 1) (.tmp 2) 3, type := 4, pos := "", after := #[], guard := none }
def lo2 : Oper := { dst := some 1, op := .binOp .add 3 (.tmp 1) (.const (.int .i64 1)) 3, type := 3, pos := "", after := #[], guard := none }
def so0 : Oper := { dst := some 1, op := .move (.const (.int .i64 0)), type := 3, pos := "", after := #[], guard := none }
def so1 : Oper := { dst := some 2, op := .call { callee := .builtin .len, args := #[.tmp 0], argTypes := #[103] }, type := 3, pos := "", after := #[], guard := none }
def so2 : Oper := { dst := some 3, op := .binOp .lss 3 (.tmp 2) (.const (.int .i64 1048577)) 3, type := 4, pos := "", after := #[{ on := 1, ground := .data }], guard := none }
def no1 : Oper := { dst := some 11, op := .binOp .eql 3 (.tmp 2) (.const (.int .i64 0)) 3, type := 4, pos := "", after := #[], guard := none }
def no2 : Oper := { dst := some 12, op := .binOp .eql 103 (.tmp 0) (.const (.slice none 0 0)) 103, type := 4, pos := "", after := #[], guard := none }
def roundC:Code := .seq (.region 1 #[lo1] false) (.seq (.cond (.tmp 4) .skip (.exit 0)) (.seq (fcode 2 0) (.seq (fcode 3 1) (.seq (fcode 4 2) (.seq (fcode 5 3) (.region 6 #[lo2] false))))))
def preC:Code := .seq (.region 0 #[so0,so1,so2] false) (.seq (.cond (.tmp 3) .skip (.exit 9)) (.seq (.block 0 (.loop roundC)) (.seq (.region 9 #[no1] false) (.cond (.tmp 11) (.seq (.region 10 #[no2] false) (.cond (.tmp 12) .skip (.exit 9))) .skip))))
theorem body_form:Tryzx.bodyX = .seq preC (.seq Tryzx.rd3 (.seq Tryzx.rd4 .ret)):=rfl
theorem lss_run (x y:Int) (w:World):(binOp .lss 3 (.int .i64 x) (.int .i64 y)).run Tryzx.prog w = .ok (.bool (decide (x<y))) w:=by
 simp [binOp,Op.intCmp]
theorem loop_ahead {A:Option Addr} {n c:Nat} (hn:n<=1048576) (hcs:cs ≠ []) (hpl:∀ c ∈ cs,PlainF Tryzx.prog c):∀ (m:Nat) {i:Nat} {r:Ren} {u3 u4 u5 u6 u7 u8 u9 u10 u11 u12:Value},n - i=m->i<=n ->
  Ahead Tryzx.prog ((base 87).at ⟨T13 (.slice A n c) (.int .i64 i) (.int .i64 n) u3 u4 u5 u6 u7 u8 u9 u10 u11 u12,[]⟩ (.code roundC :: .inLoop roundC :: .inBlock 0 :: k)) (cs ++ [Xb]) w ->
  VAll (sctx noT ws) r (T13 (.slice A n c) (.int .i64 i) (.int .i64 n) u3 u4 u5 u6 u7 u8 u9 u10 u11 u12) (T13 (.slice A n c) (.int .i64 i) (.int .i64 n) u3 u4 u5 u6 u7 u8 u9 u10 u11 u12)->WR (sctx noT ws) r w w ->
  (∀ x,i<=x->x<n->∀ j,j<4->∃ a y,A=some a/\w.cell? ((a.add (x*4)).add j)=some (.int .i64 y)) /\
  ∃ u4 u5 u6 u7 u8,Ahead Tryzx.prog ((base 87).at ⟨T13 (.slice A n c) (.int .i64 n) (.int .i64 n) u3 u4 u5 u6 u7 u8 u9 u10 u11 u12,[]⟩ k) (cs ++ [Xb]) w:=by
 intro m;induction m with
 | zero =>
  intro i r u3 u4 u5 u6 u7 u8 u9 u10 u11 u12 hm hi h hv hw;obtain rfl:i=n:=by omega
  have h:=((h.seq hcs).region hcs).val (o:=lo1) hcs rfl rfl (v := .bool false) (w1:=w) (by
   show (binOp .lss 3 (.int .i64 i) (.int .i64 i) >>= fun v=>pure (Next.value v)).run Tryzx.prog w=_
   rw [Sem.run_bind,lss_run]
   simp)
  have h:=((h.regionEnd hcs).seq hcs).cond hcs (t:=false) rfl;have h:=h.go hcs (step_exit (k':=k) rfl);exact ⟨fun x h1 h2=>absurd h2 (by omega),_,_,_,_,_,h⟩
 | succ m ih =>
  intro i r u3 u4 u5 u6 u7 u8 u9 u10 u11 u12 hm hi h hv hw;have hlt:i<n:=by omega
  have h:=((h.seq hcs).region hcs).val (o:=lo1) hcs rfl rfl (v := .bool true) (w1:=w) (by
   show (binOp .lss 3 (.int .i64 i) (.int .i64 n) >>= fun v=>pure (Next.value v)).run Tryzx.prog w=_
   rw [Sem.run_bind,lss_run];simp [hlt])
  have h:=(((h.regionEnd hcs).seq hcs).cond hcs (t:=true) rfl).skip hcs;have hv4:=hv.set 4 (VR.bool (C:=sctx noT ws) (r:=r) true);obtain ⟨a0,y0,e0,_,c0,p5,p6,p7,p8,r0,h0,hv0,hw0⟩:=fc_ahead (j:=0) (by omega) hcs hpl (h.seq hcs) hv4 hw;obtain ⟨a1,y1,e1,_,c1,q5,q6,q7,q8,r1,h1,hv1,hw1⟩:=fc_ahead (j:=1) (by omega) hcs hpl (h0.seq hcs) hv0 hw0;obtain ⟨a2,y2,e2,_,c2,s5,s6,s7,s8,r2,h2,hv2,hw2⟩:=fc_ahead (j:=2) (by omega) hcs hpl (h1.seq hcs) hv1 hw1;obtain ⟨a3,y3,e3,_,c3,t5,t6,t7,t8,r3,h3,hv3,hw3⟩:=fc_ahead (j:=3) (by omega) hcs hpl (h2.seq hcs) hv2 hw2;have h:=(h3.region hcs).val (o:=lo2) hcs rfl rfl (v := .int .i64 (i+1:Nat)) (w1:=w) (by
   show (binOp .add 3 (.int .i64 i) (.int .i64 1) >>= fun v=>pure (Next.value v)).run Tryzx.prog w=_
   have e:IntKind.i64.wrap ((i:Int)+1)=((i+1:Nat):Int):=by rw [iW (by omega)]; omega
   simp [binOp,Op.intArith,e,Sem.run_bind])
  have h:=(h.regionEnd hcs).go hcs step_inLoop;have hv5:=hv3.set 1 (VR.int (C:=sctx noT ws) (r:=r3) .i64 ((i+1:Nat):Int));obtain ⟨k1,k2⟩:=ih (i:=i+1) (by omega) (by omega) h hv5 hw3;refine ⟨fun x hx1 hx2 j hj => ?_,k2⟩;by_cases ex:x=i
  ·subst ex
   match j,hj with
   | 0,_=>exact ⟨a0,y0,e0,c0⟩
   | 1,_=>exact ⟨a1,y1,e1,c1⟩
   | 2,_=>exact ⟨a2,y2,e2,c2⟩
   | 3,_=>exact ⟨a3,y3,e3,c3⟩
  ·exact k1 x (by omega) hx2 j hj
theorem len_run {x:Value} {w w1:World} {u:Value} (h:(Builtin.len_ #[103] 3 #[x]).run Tryzx.prog w = .ok u w1):∃ A n c,x = .slice A n c/\u = .int .i64 n/\w1=w:=by
 cases x with
 | slice A n c =>
  simp [Builtin.len_,Tryz.underlying103,goInt] at h;exact ⟨A,n,c,rfl,h.1.symm,h.2.symm⟩
 | _=>simp [Builtin.len_,Tryz.underlying103,stuck] at h
theorem so0_ok:okOp Tryz.prog.toTables lawF lawD so0=true:=by decide +kernel
theorem so1_ok:okOp Tryz.prog.toTables lawF lawD so1=true:=by decide +kernel
theorem enterX (x:Value):Frame.enter Tryzx.prog 87 #[x] .normal=(base 87).at ⟨T13 x undef undef undef undef undef undef undef undef undef undef undef undef,[]⟩ [.code Tryzx.bodyX]:=by
 rw [enter_at (P:=Tryzx.prog) #[x] Tryzx.func87 (c:=Tryzx.bodyX) rfl,Tryzx.ntmps87];rfl
theorem cells_list {w:World} {blk off m:Nat} (h:∀ k,k<m->∃ y,w.cell? ⟨blk,off+k,none⟩=some (.int .i64 y)):∃ xs:List Int,xs.length=m/\∀ k,k<m->w.cell? ⟨blk,off+k,none⟩=some (.int .i64 (nth xs k)):=by
 induction m with
 | zero=>exact ⟨[],rfl,fun k hk=>absurd hk (by omega)⟩
 | succ m ih =>
  obtain ⟨xs,h1,h2⟩:=ih fun k hk=>h k (by omega)
  obtain ⟨y,hy⟩:=h m (by omega);refine ⟨xs ++ [y],by simp [h1],fun k hk => ?_⟩;by_cases e:k=m
  ·subst e
   have:=nth_right xs [y] 0;rw [Nat.add_zero,h1] at this;rw [this,hy];rfl
  ·rw [nth_left xs [y] (by omega)]
   exact h2 k (by omega)
theorem inv_rows {x:Value} (hcs:cs ≠ []) (hpl:∀ c ∈ cs,PlainF Tryzx.prog c) (h:Ahead Tryzx.prog (Frame.enter Tryzx.prog 87 #[x] .normal) (cs ++ [Xb]) w)
  (hx:VR (sctx noT ws) r x x) (hw:WR (sctx noT ws) r w w):∃ A n c xs,x = .slice A n c/\RowsIn A n xs w:=by
 have hfn:∃ fn,(sctx noT ws).Px.funcs[(87:Nat)]?=some fn:=⟨_,Tryzx.func87⟩;rw [enterX,body_form] at h;have hu:=vr_undef (C:=sctx noT ws) (r:=r);have hv0:VAll (sctx noT ws) r (T13 x undef undef undef undef undef undef undef undef undef undef undef undef) (T13 x undef undef undef undef undef undef undef undef undef undef undef undef):=by
  have:=(VAll.one hx).append (VAll.replicate 12 hu);exact this
 obtain ⟨n0,w0,r0,hr0,s0,hw0,k0⟩:=Ahead.op (S:=sctx noT ws) sok rfl (((h.seq hcs).seq hcs).region hcs) hcs hpl hfn (o:=so0) rfl rfl so0_ok hv0 hw;have e0:(execOp (Act.mk (T13 x undef undef undef undef undef undef undef undef undef undef undef undef) []).eval so0).run Tryzx.prog w = .ok (.value (.int .i64 0)) w:=rfl;rw [show (sctx noT ws).Px=Tryzx.prog from rfl,e0] at hr0;cases hr0;obtain ⟨hv1,h1⟩:=k0 _ rfl;obtain ⟨n1,w1,r1,hr1,s1,hw1,k1⟩:=Ahead.op (S:=sctx noT ws) sok rfl h1 hcs hpl hfn (o:=so1) rfl rfl so1_ok hv1 hw0;have e1:execOp (Act.mk (T13 x (.int .i64 0) undef undef undef undef undef undef undef undef undef undef undef) []).eval so1=(Builtin.len_ #[103] 3 #[x] >>= fun v=>pure (Next.value v)):=by
  simp [execOp,so1,resolve,invoke,builtin];rfl
 have hr1':(Builtin.len_ #[103] 3 #[x] >>= fun v=>pure (Next.value v)).run Tryzx.prog w = .ok n1 w1:=by rw [<- e1]; exact hr1
 obtain ⟨u1,hu1,rfl⟩:=value_of hr1';obtain ⟨A,n,c,rfl,rfl,rfl⟩:=len_run hu1;obtain ⟨hv2,h2⟩:=k1 _ rfl;have h3:=h2.val (o:=so2) hcs rfl rfl (v := .bool (decide ((n:Int)<1048577))) (by
  show (binOp .lss 3 (.int .i64 n) (.int .i64 1048577) >>= fun v=>pure (Next.value v)).run Tryzx.prog w1=_
  rw [Sem.run_bind,lss_run]
  rfl)
 have h4:=((h3.regionEnd hcs).seq hcs).cond hcs rfl;by_cases hn:(n:Int)<1048577
 rotate_left
 ·rw [decide_eq_false hn] at h4
  exact (h4.no_exit hcs rfl).elim
 rw [decide_eq_true hn] at h4;have h5:=(((h4.skip hcs).seq hcs).go hcs step_block).go hcs step_loop;have hv3:=hv2.set 3 (VR.bool (C:=sctx noT ws) (r:=r1) true);have hnn:n<=1048576:=by omega
 obtain ⟨hcell,u4,u5,u6,u7,u8,h6⟩:=loop_ahead hnn hcs hpl n (i:=0) (by omega) (by omega) h5 hv3 hw1;have h7:=((h6.seq hcs).region hcs).val (o:=no1) hcs rfl rfl (v := .bool ((n:Int) == 0)) (w1:=w1) (by
  show (binOp .eql 3 (.int .i64 n) (.int .i64 0) >>= fun v=>pure (Next.value v)).run Tryzx.prog w1=_
  rw [Sem.run_bind];simp [binOp,Op.intCmp])
 have h8:=(h7.regionEnd hcs).cond hcs rfl;refine ⟨A,n,c,?_⟩;by_cases h0:n=0
 ·subst h0
  have h9:=((h8.seq hcs).region hcs).val (o:=no2) hcs rfl rfl (v := .bool A.isNone) (w1:=w1) (by
   show (binOp .eql 103 (.slice A 0 c) (.slice none 0 0) >>= fun v=>pure (Next.value v)).run Tryzx.prog w1=_
   rw [Sem.run_bind,run_eqNil ((Tryzx.underlying_x _).trans Tryz.underlying103)]
   rfl)
  have h10:=(h9.regionEnd hcs).cond hcs rfl;cases A with
  | some a=>exact (h10.no_exit hcs rfl).elim
  | none=>exact ⟨[],rfl,by omega,rfl,.inl ⟨rfl,rfl⟩⟩
 ·obtain ⟨a,y,rfl,ha⟩:=hcell 0 (by omega) (by omega) 0 (by omega)
  obtain ⟨blk,off,spot⟩:=a;have hsp:spot=none:=by
   cases spot with
   | none=>rfl
   | some sp =>
    exfalso
    unfold World.cell? at ha;split at ha
    ·simp [Addr.add] at ha
    ·cases ha
  subst hsp;obtain ⟨xs,hx1,hx2⟩:=cells_list (w:=w1) (blk:=blk) (off:=off) (m:=4*n) fun kk hk=>by
   obtain ⟨a,y,ea,hy⟩:=hcell (kk / 4) (by omega) (by omega) (kk % 4) (by omega);cases ea;rw [Go.WideShapes.add_plain,Go.WideShapes.add_plain,show off+kk / 4*4+kk % 4=off+kk by omega] at hy;exact ⟨y,hy⟩
  exact ⟨xs,rfl,hnn,by omega,.inr ⟨by omega,blk,off,rfl,hx2⟩⟩
end
end Rn
end Go.Proofs.YtjcgklifabcfkaaGreat
