/-
  Texts that the law stands on, part 2.
-/
import Derived.Test.YtodneggnnipcnaaGreatMovesApartP1
import Derived.Test.YtodneggnnipcnaaGreatH17
import Derived.Test.YtodneggnnipcnaaGreatH22
import Derived.Test.YtodneggnnipcnaaGreatH23
import Derived.Maps.OwnSet
set_option maxRecDepth 100000
set_option linter.unusedVariables false
set_option linter.unusedSimpArgs false
namespace Go.Proofs.YtodneggnnipcnaaGreat
namespace X
open Go.RowKit
theorem MCap.drew {w:World} {gt gl gu:Nat} {H V M D W Mo:Int} (h:MCap w gt gl gu H V M D W Mo):MCap w.drew gt gl gu H V M D W Mo:=⟨h.thr,h.left,h.up⟩
set_option maxRecDepth 100000 in
set_option maxHeartbeats 3200000 in
theorem sMomentsAt_any (A:Option Addr) (n c:Nat) (zs:List Int) (B:Option Addr) (q d:Nat) (ls:List Int) (H V M D k:Int) (w:World) (h:RecsAt w w.heap.size 4 A n zs) (hn:n≤1048576) (hl:RecsAt w w.heap.size 3 B q ls) (hq:q≤1048576) :
  Calls Tryzx.prog 85 #[.agg #[.slice A n c],.slice B q d,.agg #[.int .i64 H,.int .i64 V,.int .i64 M,.int .i64 D],.int .i64 k] w fun e w'=>e = .returned (.tuple #[.int .i64 (mIn zs n ls q H V M D k),.int .i64 (mOut zs n ls q H V M D k)])∧Below w.heap.size w w':=by
 have at0:=AT.start w (.slice A n c) H V M D 32 40;have b0:=at_below w (.slice A n c) H V M D 32 40;have h1:=h.after b0;have l1:=hl.after b0;have HAT:=Lib.hid at0;clear at0 b0 hl;cases hP:pushB zs n ls q H V M D k
 ·have HF:=Lib.hid (m_f hP)
  go_enter Tryzx.func85,Tryz.ntmps85;go_wp2_with fail
  refine (l09Ok_any _ _ _ zs _ _ _ ls _ _ _ _ _ _ h1 hn l1 hq).mono ?_;rw [hP];rintro e w1 ⟨rfl,hb1⟩;have HB1:=Lib.hid (HAT.out.after hb1).below;clear hb1;go_wp2;go_ret2;exact ⟨by rw [HF.out.1,HF.out.2]; rfl,HB1.out⟩
 obtain ⟨hL,hT,hk0,hk1⟩:=pushB_out hP;obtain ⟨K,rfl⟩:∃ K:Nat,k=(K:Int):=⟨k.toNat,by omega⟩;have HM:=Lib.hid (m_t hP);have HMB:=Lib.hid (m_bds hP);have hK:K<n:=by omega
 obtain ⟨b,off,rfl,hbB,hcell⟩:=h.2 (by omega);have HC:=Lib.hid (jtCells hcell hK);have k0:(0:Int)≤(K:Int):=by omega
 have k1:(K:Int)<(n:Int):=by omega
 clear hcell h hk0 hk1;go_enter Tryzx.func85,Tryz.ntmps85;go_wp2_with fail
 refine (l09Ok_any _ _ _ zs _ _ _ ls _ _ _ _ _ _ h1 hn l1 hq).mono ?_;rw [hP];rintro e w1 ⟨rfl,hb1⟩;have HA1:=Lib.hid (HAT.out.after hb1);have h2:=h1.after hb1;have l2:=l1.after hb1;have a0:=HA1.out.arch.1;clear hb1;go_wp2_with fail
 refine (sLeft_any _ _ _ zs _ _ _ ls _ h2 l2 hL).mono ?_;rintro e w2 ⟨A6,c6,A7,c7,rfl,hi6,hi7,hb2⟩;obtain ⟨b6,o6,rfl,hl6,hc6⟩:=hi6.2 (by omega);obtain ⟨b7,o7,rfl,hl7,hc7⟩:=hi7.2 (by omega);have z6:=hc6 K hK;have z7:=hc7 K hK;rw [lwL_nth hK] at z6;rw [lmL_nth hK] at z7;have HA2:=Lib.hid (HA1.out.after hb2);clear a0 hb2 h1 h2 l1 l2 hc6 hc7 hi6 hi7;have hz2:=HA2.out.below.size;have a2:=HA2.out.arch.1;have al:=HA2.out.arch.2;have tl:=HA2.out.thr.2;have t0:=HA2.out.thr.1.1;have t1:=HA2.out.thr.1.2.1;have t2:=HA2.out.thr.1.2.2.1;have t3:=HA2.out.thr.1.2.2.2;have j0:=(HA2.out.below.cell (p:=⟨b,off+K*4,none⟩) hbB).trans HC.out.1;have j1:=(HA2.out.below.cell (p:=⟨b,off+K*4+1,none⟩) hbB).trans HC.out.2.1;have j2:=(HA2.out.below.cell (p:=⟨b,off+K*4+2,none⟩) hbB).trans HC.out.2.2.1;have j3:=(HA2.out.below.cell (p:=⟨b,off+K*4+3,none⟩) hbB).trans HC.out.2.2.2;have bl:b<w2.heap.size:=by omega
 go_wp2;go_region_held3 (fun w'=>w'.cell? ⟨w.heap.size,0,none⟩=some (.slice (some ⟨b,off,none⟩) n c)∧(w'.cell? ⟨w.heap.size+1,0,none⟩=some (.int .i64 H)∧w'.cell? ⟨w.heap.size+1,1,none⟩=some (.int .i64 V)∧w'.cell? ⟨w.heap.size+1,2,none⟩=some (.int .i64 M)∧w'.cell? ⟨w.heap.size+1,3,none⟩=some (.int .i64 D))∧w'.cell? ⟨b6,o6+K,none⟩=some (.int .i64 (leftW zs ls q K))∧w'.cell? ⟨b7,o7+K,none⟩=some (.int .i64 (leftM zs ls q K))∧(w'.cell? ⟨b,off+K*4,none⟩=some (.int .i64 (nth zs (K*4)))∧w'.cell? ⟨b,off+K*4+1,none⟩=some (.int .i64 (nth zs (K*4+1)))∧w'.cell? ⟨b,off+K*4+2,none⟩=some (.int .i64 (nth zs (K*4+2)))∧w'.cell? ⟨b,off+K*4+3,none⟩=some (.int .i64 (nth zs (K*4+3))))) (first | exact ⟨a2,⟨t0,t1,t2,t3⟩,z6,z7,⟨j0,j1,j2,j3⟩⟩ | (refine ⟨?_,⟨?_,?_,?_,?_⟩,?_,?_,⟨?_,?_,?_,?_⟩⟩ <;> (rw [hcc _ _ (by first | omega | (simp <;> omega))]; assumption)))
  ((first | ((with_reducible refine (l09Moment_any _ _ _ _ _ _ _ _ _ HMB.out.1).mono ?_); rintro e w3 ⟨rfl,hb3⟩; obtain ⟨hcc,hff⟩:=bcell hb3; have hz3:=hb3.size; try simp at hz3) | ((with_reducible refine (l09Moment_any _ _ _ _ _ _ _ _ _ HMB.out.2).mono ?_); rintro e w4 ⟨rfl,hb4⟩; have hcc1:=hcc; clear hcc; obtain ⟨hcc2,hff2⟩:=bcell hb4; have hz4:=hb4.size; have hcc:∀ b o,b<w2.heap.size→w4.cell? ⟨b,o,none⟩=w2.cell? ⟨b,o,none⟩:=fun b o h=>(hcc2 b o (by omega)).trans (hcc1 b o (by simp; omega)))))
 have HB4:=Lib.hid ((below_drewN HA2.out.below 1).trans (hb3.mono (by simp; omega)) |>.trans (hb4.mono (by omega)))
 clear hcc hcc1 hcc2 hff hff2 hb3 hb4;go_wp2;go_ret2;exact ⟨by rw [HM.out.1,HM.out.2]; rfl,HB4.out⟩
set_option maxRecDepth 100000 in
set_option maxHeartbeats 3200000 in
theorem iMomentsAt_any (A:Option Addr) (n c:Nat) (zs:List Int) (B:Option Addr) (q d:Nat) (ls:List Int) (H V M D k:Int) (w:World) (h:RecsAt w w.heap.size 4 A n zs) (hn:n≤1048576) (hl:RecsAt w w.heap.size 3 B q ls) (hq:q≤1048576) :
  Calls Tryzx.prog 87 #[.agg #[.slice A n c],.slice B q d,.agg #[.int .i64 H,.int .i64 V,.int .i64 M,.int .i64 D],.int .i64 k] w fun e w'=>e = .returned (.tuple #[.int .i64 (mIn zs n ls q H V M D k),.int .i64 (mOut zs n ls q H V M D k)])∧Below w.heap.size w w':=by
 have at0:=AT.start w (.slice A n c) H V M D 32 40;have b0:=at_below w (.slice A n c) H V M D 32 40;have h1:=h.after b0;have l1:=hl.after b0;have HAT:=Lib.hid at0;clear at0 b0 hl;cases hP:pushB zs n ls q H V M D k
 ·have HF:=Lib.hid (m_f hP)
  go_enter Tryzx.func87,Tryz.ntmps87;go_wp2_with fail
  refine (pushOk_any _ _ _ zs _ _ _ ls _ _ _ _ _ _ h1 hn l1 hq).mono ?_;rw [hP];rintro e w1 ⟨rfl,hb1⟩;have HB1:=Lib.hid (HAT.out.after hb1).below;clear hb1;go_wp2;go_ret2;exact ⟨by rw [HF.out.1,HF.out.2]; rfl,HB1.out⟩
 obtain ⟨hL,hT,hk0,hk1⟩:=pushB_out hP;obtain ⟨K,rfl⟩:∃ K:Nat,k=(K:Int):=⟨k.toNat,by omega⟩;have HM:=Lib.hid (m_t hP);have HMB:=Lib.hid (m_bds hP);have hK:K<n:=by omega
 obtain ⟨b,off,rfl,hbB,hcell⟩:=h.2 (by omega);have HC:=Lib.hid (jtCells hcell hK);have k0:(0:Int)≤(K:Int):=by omega
 have k1:(K:Int)<(n:Int):=by omega
 clear hcell h hk0 hk1;go_enter Tryzx.func87,Tryz.ntmps87;go_wp2_with fail
 refine (pushOk_any _ _ _ zs _ _ _ ls _ _ _ _ _ _ h1 hn l1 hq).mono ?_;rw [hP];rintro e w1 ⟨rfl,hb1⟩;have HA1:=Lib.hid (HAT.out.after hb1);have h2:=h1.after hb1;have l2:=l1.after hb1;have a0:=HA1.out.arch.1;clear hb1;have hlt:lfB zs n ls q (K:Int)=true:=lfB_t hL (inB_t (by omega));have HLT:=Lib.hid (lf_t hlt);clear hlt;go_wp2_with fail
 refine (leftOf_any _ _ _ zs _ _ _ ls _ _ h2 hn l2 hq).mono ?_;rw [HLT.out.1,HLT.out.2];rintro e w2 ⟨rfl,hb2⟩;have HA2:=Lib.hid (HA1.out.after hb2);clear a0 hb2 h1 h2 l1 l2;have hz2:=HA2.out.below.size;have a2:=HA2.out.arch.1;have al:=HA2.out.arch.2;have tl:=HA2.out.thr.2;have t0:=HA2.out.thr.1.1;have t1:=HA2.out.thr.1.2.1;have t2:=HA2.out.thr.1.2.2.1;have t3:=HA2.out.thr.1.2.2.2;have j0:=(HA2.out.below.cell (p:=⟨b,off+K*4,none⟩) hbB).trans HC.out.1;have j1:=(HA2.out.below.cell (p:=⟨b,off+K*4+1,none⟩) hbB).trans HC.out.2.1;have j2:=(HA2.out.below.cell (p:=⟨b,off+K*4+2,none⟩) hbB).trans HC.out.2.2.1;have j3:=(HA2.out.below.cell (p:=⟨b,off+K*4+3,none⟩) hbB).trans HC.out.2.2.2;have bl:b<w2.heap.size:=by omega
 have hbd:=HMB.out.1.dw;have hv:=HMB.out.1.v;have e2:IntKind.i64.wrap (D*leftW zs ls q K)=D*leftW zs ls q K:=IntWalk.i64_in _ (by omega);have HS0:Below w2.heap.size w2 ((w2.alloc (.cells #[.int .i64 (leftW zs ls q K),.int .i64 (leftM zs ls q K)] 142)).alloc (.cells #[.int .i64 (V - D*leftW zs ls q K)] 3)):=((Below.refl _ _).alloc (Nat.le_refl _) _).alloc (by simp) _;have HCAP:Hid (MCap ((w2.alloc (.cells #[.int .i64 (leftW zs ls q K),.int .i64 (leftM zs ls q K)] 142)).alloc (.cells #[.int .i64 (V - D*leftW zs ls q K)] 3)) (w.heap.size+1) w2.heap.size (w2.heap.size+1) H V M D (leftW zs ls q K) (leftM zs ls q K)):=by
  have h1:=(rowF_new2 w2 (leftW zs ls q K) (leftM zs ls q K) 142).alloc (.cells #[.int .i64 (V - D*leftW zs ls q K)] 3);have h2:=rowF_new1 (w2.alloc (.cells #[.int .i64 (leftW zs ls q K),.int .i64 (leftM zs ls q K)] 142)) (.int .i64 (V - D*leftW zs ls q K)) 3;rw [World.size_alloc] at h2;exact ⟨HA2.out.thr.after HS0,⟨h1.cell (by omega),h1.cell (by omega),h1.lt⟩,⟨h2.cell (by omega),h2.lt⟩⟩
 have HA3:=Lib.hid (HA2.out.after HS0);have a3:=HA3.out.arch.1;have i0:=(HS0.cell (p:=⟨b,off+K*4,none⟩) bl).trans j0;have i1:=(HS0.cell (p:=⟨b,off+K*4+1,none⟩) bl).trans j1;have i2:=(HS0.cell (p:=⟨b,off+K*4+2,none⟩) bl).trans j2;have i3:=(HS0.cell (p:=⟨b,off+K*4+3,none⟩) bl).trans j3;clear HS0 j0 j1 j2 j3;generalize hW3:leftW zs ls q K=lw at *
 generalize hM3:leftM zs ls q K=lm at *
 have HW3:=Lib.hid hW3;have HM3:=Lib.hid hM3;clear hW3 hM3;go_wp2;clear a2 t0 t1 t2 t3 hbd hv;have HCAPD:=Lib.hid HCAP.out.drew;go_region_held3 (fun w'=>w'.cell? ⟨w.heap.size,0,none⟩=some (.slice (some ⟨b,off,none⟩) n c)∧(w'.cell? ⟨b,off+K*4,none⟩=some (.int .i64 (nth zs (K*4)))∧w'.cell? ⟨b,off+K*4+1,none⟩=some (.int .i64 (nth zs (K*4+1)))∧w'.cell? ⟨b,off+K*4+2,none⟩=some (.int .i64 (nth zs (K*4+2)))∧w'.cell? ⟨b,off+K*4+3,none⟩=some (.int .i64 (nth zs (K*4+3))))) (first | exact ⟨a3,⟨i0,i1,i2,i3⟩⟩ | (refine ⟨?_,⟨?_,?_,?_,?_⟩⟩ <;> (rw [hcc _ _ (by first | omega | (simp <;> omega))]; assumption)))
  (((go_at_call 113; first | ((with_reducible refine (moment1_any _ _ _ _ _ _ _ _ _ _ _ _ HCAPD.out HMB.out.1).mono ?_); rintro e w3 ⟨rfl,hb3⟩; have HCAP3:=Lib.hid (HCAPD.out.after hb3); obtain ⟨hcc,hff⟩:=bcell hb3; have hz3:=hb3.size; try simp at hz3) | ((with_reducible refine (moment1_any _ _ _ _ _ _ _ _ _ _ _ _ HCAP3.out HMB.out.2).mono ?_); rintro e w4 ⟨rfl,hb4⟩; have hcc1:=hcc; clear hcc; obtain ⟨hcc2,hff2⟩:=bcell hb4; have hz4:=hb4.size; have hcc:∀ b o,b<w2.heap.size+2→w4.cell? ⟨b,o,none⟩=((w2.alloc (.cells #[.int .i64 lw,.int .i64 lm] 142)).alloc (.cells #[.int .i64 (V - D*lw)] 3)).cell? ⟨b,o,none⟩:=fun b o h=>(hcc2 b o (by omega)).trans (hcc1 b o (by simp; omega))))))
 have HB4:=Lib.hid ((below_drewN HA3.out.below 1).trans (hb3.mono (by simp; omega)) |>.trans (hb4.mono (by omega)))
 clear hcc hcc1 hcc2 hff hff2 hb3 hb4;go_wp2;go_ret2;exact ⟨by rw [HM.out.1,HM.out.2]; rfl,HB4.out⟩
end X
namespace X
open Go.RowKit
theorem iRowsOf_any (A:Option Addr) (n c:Nat) (zs:List Int) (B:Option Addr) (q d:Nat) (ls:List Int) (w:World) (h:RecsAt w w.heap.size 4 A n zs) (hn:n≤1048576) (hl:RecsAt w w.heap.size 3 B q ls) (hq:q≤1048576) :
  Calls Tryzx.prog 93 #[.agg #[.slice A n c],.slice B q d] w (RowsPost w (rowsN zs n ls q) (rowsZ zs n ls q)) :=
 (iRowsOfN_any A n c zs B q d ls w h hn hl hq).mono fun _ _ h=>h.1
end X
namespace X
open Go.RowKit
def stB (zs:List Int) (n:Nat) (ls:List Int) (q:Nat) (H V M D:Int):Bool:=fulAll (rowsZ zs n ls q) (rowsN zs n ls q) H V M D
theorem rowsN_le (zs:List Int) (n:Nat) (ls:List Int) (q:Nat):rowsN zs n ls q≤17:=by
 unfold rowsN;split
 ·rename_i h
  have:=(archB_out (loadsB_out h).1).1;omega
 ·omega
set_option maxRecDepth 100000 in
set_option maxHeartbeats 1600000 in
theorem iStandsWith_any (A : Option Addr) (n c : Nat) (zs : List Int) (B : Option Addr) (q d : Nat) (ls : List Int) (H V M D : Int) (w : World) (h : RecsAt w w.heap.size 4 A n zs) (hn : n ≤ 1048576) (hl : RecsAt w w.heap.size 3 B q ls) (hq : q ≤ 1048576) :
    Calls Tryzx.prog 86 #[.agg #[.slice A n c], .slice B q d, .agg #[.int .i64 H, .int .i64 V, .int .i64 M, .int .i64 D]] w fun e w' => e = .returned (.bool (stB zs n ls q H V M D)) ∧ Below w.heap.size w w' := by
  have at0 := AT.start w (.slice A n c) H V M D 32 40;have b0 := at_below w (.slice A n c) H V M D 32 40;have h1 := h.after b0;have l1 := hl.after b0;have a0 := at0.arch.1;obtain ⟨t0, t1, t2, t3⟩ := at0.thr.1;have hr17 := rowsN_le zs n ls q;have HST : Hid (stB zs n ls q H V M D = fulAll (rowsZ zs n ls q) (rowsN zs n ls q) H V M D) := rfl;generalize stB zs n ls q H V M D = sb at *
  clear b0 h hl;go_enter Tryzx.func86, Tryz.ntmps86;go_wp2;go_region_held3 (fun w' => w'.cell? ⟨w.heap.size, 0, none⟩ = some (.slice A n c) ∧ (w'.cell? ⟨w.heap.size + 1, 0, none⟩ = some (.int .i64 H) ∧ w'.cell? ⟨w.heap.size + 1, 1, none⟩ = some (.int .i64 V) ∧ w'.cell? ⟨w.heap.size + 1, 2, none⟩ = some (.int .i64 M) ∧ w'.cell? ⟨w.heap.size + 1, 3, none⟩ = some (.int .i64 D))) (first | exact ⟨a0, t0, t1, t2, t3⟩ | exact ⟨at2.arch.1, at2.thr.1⟩ | exact ⟨at3.arch.1, at3.thr.1⟩)
    ((first
      | (go_at_call 93; refine (iRowsOf_any _ _ _ zs _ _ _ ls _ (by exact h1) hn (by exact l1) hq).mono ?_; rintro e w2 ⟨v2, rfl, ho2, hbx2⟩; have hb2 := below_undrew hbx2; have at2 := at0.after hb2; obtain ⟨A2, c2, rfl, _⟩ := ho2.slice; have r2 := ho2.recs)
      | (go_at_call 110; refine (iFulfillsAll_any _ _ _ _ _ _ _ _ _ (by exact r2) (by omega)).mono ?_; rintro e w3 ⟨rfl, hb3⟩; have at3 := at2.after hb3)))
  have HB3 := Lib.hid at3.below;clear at0 at2 at3 hb2 hb3 hbx2 ho2 r2 a0 t0 t1 t2 t3 h1 l1;go_wp2;go_ret;exact ⟨ret_bool (by rw [HST.out]), HB3.out⟩
set_option maxRecDepth 100000 in
set_option maxHeartbeats 1600000 in
theorem sStandsWith_any (A : Option Addr) (n c : Nat) (zs : List Int) (B : Option Addr) (q d : Nat) (ls : List Int) (H V M D : Int) (w : World) (h : RecsAt w w.heap.size 4 A n zs) (hn : n ≤ 1048576) (hl : RecsAt w w.heap.size 3 B q ls) (hq : q ≤ 1048576) :
    Calls Tryzx.prog 84 #[.agg #[.slice A n c], .slice B q d, .agg #[.int .i64 H, .int .i64 V, .int .i64 M, .int .i64 D]] w fun e w' => e = .returned (.bool (stB zs n ls q H V M D)) ∧ Below w.heap.size w w' := by
  have at0 := AT.start w (.slice A n c) H V M D 32 40;have b0 := at_below w (.slice A n c) H V M D 32 40;have h1 := h.after b0;have l1 := hl.after b0;have a0 := at0.arch.1;obtain ⟨t0, t1, t2, t3⟩ := at0.thr.1;have hr17 := rowsN_le zs n ls q;have HST : Hid (stB zs n ls q H V M D = fulAll (rowsZ zs n ls q) (rowsN zs n ls q) H V M D) := rfl;generalize stB zs n ls q H V M D = sb at *
  clear b0 h hl;go_enter Tryzx.func84, Tryz.ntmps84;go_wp2;go_region_held3 (fun w' => w'.cell? ⟨w.heap.size, 0, none⟩ = some (.slice A n c) ∧ (w'.cell? ⟨w.heap.size + 1, 0, none⟩ = some (.int .i64 H) ∧ w'.cell? ⟨w.heap.size + 1, 1, none⟩ = some (.int .i64 V) ∧ w'.cell? ⟨w.heap.size + 1, 2, none⟩ = some (.int .i64 M) ∧ w'.cell? ⟨w.heap.size + 1, 3, none⟩ = some (.int .i64 D))) (first | exact ⟨a0, t0, t1, t2, t3⟩ | exact ⟨at2.arch.1, at2.thr.1⟩ | exact ⟨at3.arch.1, at3.thr.1⟩)
    ((first
      | (go_at_call 102; refine (sRowsOf_any _ _ _ zs _ _ _ ls _ (by exact h1) hn (by exact l1) hq).mono ?_; rintro e w2 ⟨v2, rfl, ho2, hbx2⟩; have hb2 := below_undrew hbx2; have at2 := at0.after hb2; obtain ⟨A2, c2, rfl, _⟩ := ho2.slice; have r2 := ho2.recs)
      | (go_at_call 106; refine (sFulfillsAll_any _ _ _ _ _ _ _ _ _ (by exact r2) (by omega)).mono ?_; rintro e w3 ⟨rfl, hb3⟩; have at3 := at2.after hb3)))
  have HB3 := Lib.hid at3.below;clear at0 at2 at3 hb2 hb3 hbx2 ho2 r2 a0 t0 t1 t2 t3 h1 l1;go_wp2;go_ret;exact ⟨ret_bool (by rw [HST.out]), HB3.out⟩
end X
namespace X
open Go.RowKit
def hgP (zs:List Int) (n:Nat) (ls:List Int) (q:Nat) (H V M D:Int) (k:Nat):List (Int × Bool):=hgL (fun j=>mIn zs n ls q H V M D (j:Int)) (fun j=>mOut zs n ls q H V M D (j:Int)) k
def hgJ (zs:List Int) (n:Nat) (ls:List Int) (q:Nat) (H V M D:Int):List (Int × Bool):=if stB zs n ls q H V M D=true then hgP zs n ls q H V M D n else []
theorem hgJ_f {zs:List Int} {n:Nat} {ls:List Int} {q:Nat} {H V M D:Int} (h:stB zs n ls q H V M D=false):hgJ zs n ls q H V M D = []:=by simp [hgJ,h]
theorem hgJ_t {zs:List Int} {n:Nat} {ls:List Int} {q:Nat} {H V M D:Int} (h:stB zs n ls q H V M D=true):hgJ zs n ls q H V M D=hgP zs n ls q H V M D n:=by simp [hgJ,h]
section
variable {zs : List Int} {n : Nat} {ls : List Int} {q : Nat} {H V M D : Int} {k : Nat}
theorem hgP_00 (h1:mIn zs n ls q H V M D (k:Int)=0) (h2:mOut zs n ls q H V M D (k:Int)=0):hgP zs n ls q H V M D (k+1)=hgP zs n ls q H V M D k ++ [((k:Int),false)] ++ [((k:Int),true)]:=hgL_00 h1 h2
theorem hgP_01 (h1:mIn zs n ls q H V M D (k:Int)=0) (h2:mOut zs n ls q H V M D (k:Int) ≠ 0):hgP zs n ls q H V M D (k+1)=hgP zs n ls q H V M D k ++ [((k:Int),false)]:=hgL_01 h1 h2
theorem hgP_10 (h1:mIn zs n ls q H V M D (k:Int) ≠ 0) (h2:mOut zs n ls q H V M D (k:Int)=0):hgP zs n ls q H V M D (k+1)=hgP zs n ls q H V M D k ++ [((k:Int),true)]:=hgL_10 h1 h2
theorem hgP_11 (h1:mIn zs n ls q H V M D (k:Int) ≠ 0) (h2:mOut zs n ls q H V M D (k:Int) ≠ 0):hgP zs n ls q H V M D (k+1)=hgP zs n ls q H V M D k:=hgL_11 h1 h2
theorem hgP_len (zs:List Int) (n:Nat) (ls:List Int) (q:Nat) (H V M D:Int) (k:Nat):(hgP zs n ls q H V M D k).length≤2*k:=hgL_len _ _ k
end
theorem stB_n {zs:List Int} {n:Nat} {ls:List Int} {q:Nat} {H V M D:Int} (h:stB zs n ls q H V M D=true):3≤n∧n≤8:=by
 cases hL:loadsB zs n ls q
 ·simp [stB,fulAll,rowsN,hL,inB] at h
 ·exact (archB_out (loadsB_out hL).1).1
theorem hgJ_in (zs:List Int) (n:Nat) (ls:List Int) (q:Nat) (H V M D:Int):(hgJ zs n ls q H V M D).length≤1048576∧∀ i,i<(hgJ zs n ls q H V M D).length→0≤nth (hjs (hgJ zs n ls q H V M D)) i∧nth (hjs (hgJ zs n ls q H V M D)) i≤1048576:=by
 cases h:stB zs n ls q H V M D
 ·rw [hgJ_f h]; exact ⟨by simp,fun i hi=>by simp at hi⟩
 ·rw [hgJ_t h]
  have hn:=stB_n h;have hl:=hgL_len (fun j=>mIn zs n ls q H V M D (j:Int)) (fun j=>mOut zs n ls q H V M D (j:Int)) n;refine ⟨by unfold hgP; omega,fun i hi => ?_⟩
  have:=hjs_in hi;unfold hgP;omega
def HgPost (w:World) (L:List (Int × Bool)) (e:Ending) (w':World):Prop:=∃ A c,e = .returned (.slice A L.length c)∧HngAt w' A L.length (hjs L)∧Below w.heap.size w w'
theorem infoHng:(Tryzx.prog.info? 116).map (fun i=>(i.zero,i.size,i.bytes))=some (some (.agg #[.int .i64 0,.bool false]),2,16):=by kernel_rfl
section
variable (A : Option Addr) (n c : Nat) (zs : List Int) (B : Option Addr) (q d : Nat) (ls : List Int) (H V M D : Int) (w : World) (h : RecsAt w w.heap.size 4 A n zs) (hn : n ≤ 1048576) (hl : RecsAt w w.heap.size 3 B q ls) (hq : q ≤ 1048576)
include h hn hl hq
set_option maxRecDepth 100000 in
set_option maxHeartbeats 3200000 in
theorem iHng_any:Calls Tryzx.prog 61 #[.agg #[.slice A n c],.slice B q d,.agg #[.int .i64 H,.int .i64 V,.int .i64 M,.int .i64 D]] w (HgPost w (hgJ zs n ls q H V M D)):=by
 have hz0:((w.alloc (.cells #[.slice A n c] 32)).alloc (.cells #[.int .i64 H,.int .i64 V,.int .i64 M,.int .i64 D] 40)).heap.size=w.heap.size+2:=by simp
 have at0:=AT.start w (.slice A n c) H V M D 32 40;have b0:=at0.below;have h1:=h.after b0;have l1:=hl.after b0;have HAT:=Lib.hid at0;have HH:=Lib.hid h;have HL:=Lib.hid hl;have ca:=at0.arch.1;have t0:=at0.thr.1.1;have t1:=at0.thr.1.2.1;have t2:=at0.thr.1.2.2.1;have t3:=at0.thr.1.2.2.2;clear at0 b0 h hl;cases hS:stB zs n ls q H V M D
 ·have HF:=Lib.hid (hgJ_f hS)
  go_enter Tryzx.func61,Tryz.ntmps61;go_wp2_with fail
  refine (iStandsWith_any _ _ _ zs _ _ _ ls _ _ _ _ _ (by exact h1) hn (by exact l1) hq).mono ?_;rw [hS];rintro e w1 ⟨rfl,hb1⟩;have HB1:=Lib.hid (HAT.out.after hb1).below;clear hb1 h1 l1 ca t0 t1 t2 t3;go_wp2;go_ret;exact ⟨_,_,by rw [HF.out]; rfl,by rw [HF.out]; exact fun h=>absurd h (by decide),HB1.out⟩
 ·have HF:=Lib.hid (hgJ_t hS)
  have hn8:=stB_n hS;go_enter Tryzx.func61,Tryz.ntmps61;go_wp2_with fail
  refine (iStandsWith_any _ _ _ zs _ _ _ ls _ _ _ _ _ (by exact h1) hn (by exact l1) hq).mono ?_;rw [hS];rintro e w1 ⟨rfl,hb1⟩;have HA1:=Lib.hid (HAT.out.after hb1);have HB1:=Lib.hid (Below.refl w1.heap.size w1);have a0:=HA1.out.arch.1;clear hb1 h1 l1 hS ca t0 t1 t2 t3 HAT;go_wp2;clear a0;go_loopw [7,19] (fun v7 v19 wr=>∃ k:Nat,v19 = .int .i64 k∧k≤n∧Hid (OwnH wr (w.heap.size+2) 116 v7 (hgP zs n ls q H V M D k))∧Hid (AT w wr (.slice A n c) H V M D)) (fun v7 v19 _=>n - (intOf v19).toNat)
  case atStart=>exact ⟨0,rfl,Nat.zero_le _,Lib.hid (OwnH.nil _ _ _),HA1⟩
  case round =>
   clear HA1;obtain ⟨k,rfl,hk,HO,HA⟩:=hrel;have a0:=HA.out.arch.1;have t0:=HA.out.thr.1.1;have t1:=HA.out.thr.1.2.1;have t2:=HA.out.thr.1.2.2.1;have t3:=HA.out.thr.1.2.2.2;have hz:=HA.out.below.size;have hzz:w.heap.size+2≤wr.heap.size:=HA.out.thr.2;by_cases hlt:k<n
   ·have ki:(k:Int)<(n:Int):=by omega
    have k0:(0:Int)≤(k:Int):=by omega
    have i1:IntKind.i64.wrap ((k:Int)+1)=(k:Int)+1:=IntWalk.i64_in _ (by omega);have r1:=HH.out.after HA.out.below;have r2:=HL.out.after HA.out.below;go_wp2_with fail
    refine (iMomentsAt_any _ _ _ zs _ _ _ ls _ _ _ _ (k:Int) _ (by exact r1) hn (by exact r2) hq).mono ?_;rintro e w2 ⟨rfl,hb2⟩;have HA2:=Lib.hid (HA.out.after hb2);have HO2:=Lib.hid (HO.out.below hb2);have hz2:w.heap.size+2≤w2.heap.size:=HA2.out.thr.2;have hlen:=hgP_len zs n ls q H V M D k;clear hb2 r1 r2 a0 t0 t1 t2 t3 HA HO;have e00:=Lib.hid (hgP_00 (zs:=zs) (n:=n) (ls:=ls) (q:=q) (H:=H) (V:=V) (M:=M) (D:=D) (k:=k));have e01:=Lib.hid (hgP_01 (zs:=zs) (n:=n) (ls:=ls) (q:=q) (H:=H) (V:=V) (M:=M) (D:=D) (k:=k));have e10:=Lib.hid (hgP_10 (zs:=zs) (n:=n) (ls:=ls) (q:=q) (H:=H) (V:=V) (M:=M) (D:=D) (k:=k));have e11:=Lib.hid (hgP_11 (zs:=zs) (n:=n) (ls:=ls) (q:=q) (H:=H) (V:=V) (M:=M) (D:=D) (k:=k));generalize mIn zs n ls q H V M D (k:Int)=f at *
    generalize mOut zs n ls q H V M D (k:Int)=g at *
    generalize hL:hgP zs n ls q H V M D k=L at *
    clear hL;by_cases hf0:f=0
    ·have hq0:(f == 0)=true:=by simp [hf0]
     by_cases hg0:g=0
     ·have hq1:(g == 0)=true:=by simp [hg0]
      have yw3:=cell_newH w2 (k:Int) false 116;have yaw3:=yw3.1;have ybw3:=yw3.2;have HAAw3:=Lib.hid (HA2.out.after ((Below.refl _ _).alloc (Nat.le_refl _) (.cells #[.int .i64 (k:Int),.bool false] 116)));have hqw3:w.heap.size+2≤(w2.alloc (.cells #[.int .i64 (k:Int),.bool false] 116)).heap.size:=HAAw3.out.thr.2;have HRw3:=Lib.hid (Below.refl (w.heap.size+2) (w2.alloc (.cells #[.int .i64 (k:Int),.bool false] 116)));go_wp2_with (first | (at_builtin; refine wpList_appH _ rfl (.tmp 32) (.tmp 35) 93 rfl (w.heap.size+2) 116 16 #[.int .i64 0,.bool false] Tryzx.underlying93 infoHng rfl (by decide) _ (L) rfl (by exact HO2.out.alloc _) w2.heap.size 1 (k:Int) false rfl (by exact yaw3) (by exact ybw3) (by simp; omega) (w.heap.size+2) (w2.alloc (.cells #[.int .i64 (k:Int),.bool false] 116)) (by exact HRw3.out) (Nat.le_refl _) hqw3 ?_; intro vw3 w3 hownw3 hbw3; have HOw3:=Lib.hid hownw3; have HAXw3:=Lib.hid (HAAw3.out.keepH hbw3); have hzw3:w.heap.size+2≤w3.heap.size:=HAXw3.out.thr.2; have yw4:=cell_newH w3 (k:Int) true 116; have yaw4:=yw4.1; have ybw4:=yw4.2; have HAAw4:=Lib.hid (HAXw3.out.after ((Below.refl _ _).alloc (Nat.le_refl _) (.cells #[.int .i64 (k:Int),.bool true] 116))); have hqw4:w.heap.size+2≤(w3.alloc (.cells #[.int .i64 (k:Int),.bool true] 116)).heap.size:=HAAw4.out.thr.2; have HRw4:=Lib.hid (Below.refl (w.heap.size+2) (w3.alloc (.cells #[.int .i64 (k:Int),.bool true] 116)))) | (at_builtin; refine wpList_appH _ rfl (.tmp 39) (.tmp 42) 93 rfl (w.heap.size+2) 116 16 #[.int .i64 0,.bool false] Tryzx.underlying93 infoHng rfl (by decide) _ (L ++ [((k:Int),false)]) rfl (by exact HOw3.out.alloc _) w3.heap.size 1 (k:Int) true rfl (by exact yaw4) (by exact ybw4) (by simp; omega) (w.heap.size+2) (w3.alloc (.cells #[.int .i64 (k:Int),.bool true] 116)) (by exact HRw4.out) (Nat.le_refl _) hqw4 ?_; intro vw4 w4 hownw4 hbw4; have HOw4:=Lib.hid hownw4; have HAXw4:=Lib.hid (HAAw4.out.keepH hbw4); have hzw4:w.heap.size+2≤w4.heap.size:=HAXw4.out.thr.2));clear hownw3 hbw3 hownw4 hbw4 yaw3 ybw3 yw3 yaw4 ybw4 yw4;go_wp2;go_roundw
      case rel=>exact ⟨k+1,by go_num,by omega,Lib.hid (by rw [e00.out hf0 hg0]; exact HOw4.out),HAXw4⟩
      case measure=>simp [intOf]; omega
     ·have hq1:(g == 0)=false:=by simp [hg0]
      have yw3:=cell_newH w2 (k:Int) false 116;have yaw3:=yw3.1;have ybw3:=yw3.2;have HAAw3:=Lib.hid (HA2.out.after ((Below.refl _ _).alloc (Nat.le_refl _) (.cells #[.int .i64 (k:Int),.bool false] 116)));have hqw3:w.heap.size+2≤(w2.alloc (.cells #[.int .i64 (k:Int),.bool false] 116)).heap.size:=HAAw3.out.thr.2;have HRw3:=Lib.hid (Below.refl (w.heap.size+2) (w2.alloc (.cells #[.int .i64 (k:Int),.bool false] 116)));go_wp2_with (at_builtin; refine wpList_appH _ rfl (.tmp 32) (.tmp 35) 93 rfl (w.heap.size+2) 116 16 #[.int .i64 0,.bool false] Tryzx.underlying93 infoHng rfl (by decide) _ (L) rfl (by exact HO2.out.alloc _) w2.heap.size 1 (k:Int) false rfl (by exact yaw3) (by exact ybw3) (by simp; omega) (w.heap.size+2) (w2.alloc (.cells #[.int .i64 (k:Int),.bool false] 116)) (by exact HRw3.out) (Nat.le_refl _) hqw3 ?_; intro vw3 w3 hownw3 hbw3);have HOw3:=Lib.hid hownw3;have HAXw3:=Lib.hid (HAAw3.out.keepH hbw3);have hzw3:w.heap.size+2≤w3.heap.size:=HAXw3.out.thr.2;clear hownw3 hbw3 yaw3 ybw3 yw3;go_wp2;go_roundw
      case rel=>exact ⟨k+1,by go_num,by omega,Lib.hid (by rw [e01.out hf0 hg0]; exact HOw3.out),HAXw3⟩
      case measure=>simp [intOf]; omega
    ·have hq0:(f == 0)=false:=by simp [hf0]
     by_cases hg0:g=0
     ·have hq1:(g == 0)=true:=by simp [hg0]
      have yw4:=cell_newH w2 (k:Int) true 116;have yaw4:=yw4.1;have ybw4:=yw4.2;have HAAw4:=Lib.hid (HA2.out.after ((Below.refl _ _).alloc (Nat.le_refl _) (.cells #[.int .i64 (k:Int),.bool true] 116)));have hqw4:w.heap.size+2≤(w2.alloc (.cells #[.int .i64 (k:Int),.bool true] 116)).heap.size:=HAAw4.out.thr.2;have HRw4:=Lib.hid (Below.refl (w.heap.size+2) (w2.alloc (.cells #[.int .i64 (k:Int),.bool true] 116)));go_wp2_with (at_builtin; refine wpList_appH _ rfl (.tmp 39) (.tmp 42) 93 rfl (w.heap.size+2) 116 16 #[.int .i64 0,.bool false] Tryzx.underlying93 infoHng rfl (by decide) _ (L) rfl (by exact HO2.out.alloc _) w2.heap.size 1 (k:Int) true rfl (by exact yaw4) (by exact ybw4) (by simp; omega) (w.heap.size+2) (w2.alloc (.cells #[.int .i64 (k:Int),.bool true] 116)) (by exact HRw4.out) (Nat.le_refl _) hqw4 ?_; intro vw4 w4 hownw4 hbw4);have HOw4:=Lib.hid hownw4;have HAXw4:=Lib.hid (HAAw4.out.keepH hbw4);have hzw4:w.heap.size+2≤w4.heap.size:=HAXw4.out.thr.2;clear hownw4 hbw4 yaw4 ybw4 yw4;go_wp2;go_roundw
      case rel=>exact ⟨k+1,by go_num,by omega,Lib.hid (by rw [e10.out hf0 hg0]; exact HOw4.out),HAXw4⟩
      case measure=>simp [intOf]; omega
     ·have hq1:(g == 0)=false:=by simp [hg0]
      go_wp2;go_roundw
      case rel=>exact ⟨k+1,by go_num,by omega,Lib.hid (by rw [e11.out hf0 hg0]; exact HO2.out),HA2⟩
      case measure=>simp [intOf]; omega
   ·obtain rfl:n=k:=by omega
    obtain ⟨A7,c7,rfl,h7⟩:=HO.out.slice;have H7:=Lib.hid h7;clear h7;go_wp2;go_ret;exact ⟨A7,c7,by rw [HF.out]; rfl,by rw [HF.out]; exact H7.out,HA.out.below⟩
set_option maxRecDepth 100000 in
set_option maxHeartbeats 3200000 in
theorem sHng_any:Calls Tryzx.prog 59 #[.agg #[.slice A n c],.slice B q d,.agg #[.int .i64 H,.int .i64 V,.int .i64 M,.int .i64 D]] w (HgPost w (hgJ zs n ls q H V M D)):=by
 have hz0:(((w.alloc (.cells #[.slice A n c] 32)).alloc (.cells #[.int .i64 H,.int .i64 V,.int .i64 M,.int .i64 D] 40)).alloc (.cells #[] 116)).heap.size=w.heap.size+3:=by simp
 have at0:=(AT.start w (.slice A n c) H V M D 32 40).after ((Below.refl _ _).alloc (Nat.le_refl _) (.cells #[] 116));have b0:=at0.below;have h1:=h.after b0;have l1:=hl.after b0;have HAT:=Lib.hid at0;have HH:=Lib.hid h;have HL:=Lib.hid hl;have ca:=at0.arch.1;have t0:=at0.thr.1.1;have t1:=at0.thr.1.2.1;have t2:=at0.thr.1.2.2.1;have t3:=at0.thr.1.2.2.2;clear at0 b0 h hl;cases hS:stB zs n ls q H V M D
 ·have HF:=Lib.hid (hgJ_f hS)
  go_enter Tryzx.func59,Tryz.ntmps59;go_wp2_with fail
  refine (sStandsWith_any _ _ _ zs _ _ _ ls _ _ _ _ _ (by exact h1) hn (by exact l1) hq).mono ?_;rw [hS];rintro e w1 ⟨rfl,hb1⟩;have HB1:=Lib.hid (HAT.out.after hb1).below;clear hb1 h1 l1 ca t0 t1 t2 t3;go_wp2;go_ret;exact ⟨_,_,by rw [HF.out]; rfl,by rw [HF.out]; exact fun h=>absurd h (by decide),HB1.out⟩
 ·have HF:=Lib.hid (hgJ_t hS)
  have hn8:=stB_n hS;have HO0:Hid (OwnH (((w.alloc (.cells #[.slice A n c] 32)).alloc (.cells #[.int .i64 H,.int .i64 V,.int .i64 M,.int .i64 D] 40)).alloc (.cells #[] 116)) (w.heap.size+2) 116 (.slice (some ⟨w.heap.size+2,0,none⟩) 0 0) []):=Lib.hid (by have h:=OwnH.newB ((w.alloc (.cells #[.slice A n c] 32)).alloc (.cells #[.int .i64 H,.int .i64 V,.int .i64 M,.int .i64 D] 40)) 116 (w.heap.size+2) (by simp); simpa using h)
  go_enter Tryzx.func59,Tryz.ntmps59;go_wp2_with fail
  refine (sStandsWith_any _ _ _ zs _ _ _ ls _ _ _ _ _ (by exact h1) hn (by exact l1) hq).mono ?_;rw [hS];rintro e w1 ⟨rfl,hb1⟩;have HA1:=Lib.hid (HAT.out.after hb1);have HO1:=Lib.hid (HO0.out.below hb1);have HB1:=Lib.hid (Below.refl w1.heap.size w1);have a0:=HA1.out.arch.1;clear hb1 h1 l1 hS ca t0 t1 t2 t3 HAT HO0;go_wp2;clear a0;go_loopw [7,8] (fun v7 v8 wr=>∃ k:Nat,v8 = .int .i64 k∧k≤n∧Hid (OwnH wr (w.heap.size+2) 116 v7 (hgP zs n ls q H V M D k))∧Hid (AT w wr (.slice A n c) H V M D)) (fun v7 v8 _=>n - (intOf v8).toNat)
  case atStart=>exact ⟨0,rfl,Nat.zero_le _,HO1,HA1⟩
  case round =>
   clear HA1 HO1;obtain ⟨k,rfl,hk,HO,HA⟩:=hrel;have a0:=HA.out.arch.1;have t0:=HA.out.thr.1.1;have t1:=HA.out.thr.1.2.1;have t2:=HA.out.thr.1.2.2.1;have t3:=HA.out.thr.1.2.2.2;have hz:=HA.out.below.size;have hzz:w.heap.size+2≤wr.heap.size:=HA.out.thr.2;by_cases hlt:k<n
   ·have ki:(k:Int)<(n:Int):=by omega
    have k0:(0:Int)≤(k:Int):=by omega
    have i1:IntKind.i64.wrap ((k:Int)+1)=(k:Int)+1:=IntWalk.i64_in _ (by omega);have r1:=HH.out.after HA.out.below;have r2:=HL.out.after HA.out.below;go_wp2_with fail
    refine (sMomentsAt_any _ _ _ zs _ _ _ ls _ _ _ _ (k:Int) _ (by exact r1) hn (by exact r2) hq).mono ?_;rintro e w2 ⟨rfl,hb2⟩;have HA2:=Lib.hid (HA.out.after hb2);have HO2:=Lib.hid (HO.out.below hb2);have hz2:w.heap.size+2≤w2.heap.size:=HA2.out.thr.2;have hlen:=hgP_len zs n ls q H V M D k;clear hb2 r1 r2 a0 t0 t1 t2 t3 HA HO;have e00:=Lib.hid (hgP_00 (zs:=zs) (n:=n) (ls:=ls) (q:=q) (H:=H) (V:=V) (M:=M) (D:=D) (k:=k));have e01:=Lib.hid (hgP_01 (zs:=zs) (n:=n) (ls:=ls) (q:=q) (H:=H) (V:=V) (M:=M) (D:=D) (k:=k));have e10:=Lib.hid (hgP_10 (zs:=zs) (n:=n) (ls:=ls) (q:=q) (H:=H) (V:=V) (M:=M) (D:=D) (k:=k));have e11:=Lib.hid (hgP_11 (zs:=zs) (n:=n) (ls:=ls) (q:=q) (H:=H) (V:=V) (M:=M) (D:=D) (k:=k));generalize mIn zs n ls q H V M D (k:Int)=f at *
    generalize mOut zs n ls q H V M D (k:Int)=g at *
    generalize hL:hgP zs n ls q H V M D k=L at *
    clear hL;by_cases hf0:f=0
    ·have hq0:(f == 0)=true:=by simp [hf0]
     by_cases hg0:g=0
     ·have hq1:(g == 0)=true:=by simp [hg0]
      have yw3:=cell_newH w2 (k:Int) false 116;have yaw3:=yw3.1;have ybw3:=yw3.2;have HAAw3:=Lib.hid (HA2.out.after ((Below.refl _ _).alloc (Nat.le_refl _) (.cells #[.int .i64 (k:Int),.bool false] 116)));have hqw3:w.heap.size+2≤(w2.alloc (.cells #[.int .i64 (k:Int),.bool false] 116)).heap.size:=HAAw3.out.thr.2;have HRw3:=Lib.hid (Below.refl (w.heap.size+2) (w2.alloc (.cells #[.int .i64 (k:Int),.bool false] 116)));go_wp2_with (first | (at_builtin; refine wpList_appH _ rfl (.tmp 35) (.tmp 38) 93 rfl (w.heap.size+2) 116 16 #[.int .i64 0,.bool false] Tryzx.underlying93 infoHng rfl (by decide) _ (L) rfl (by exact HO2.out.alloc _) w2.heap.size 1 (k:Int) false rfl (by exact yaw3) (by exact ybw3) (by simp; omega) (w.heap.size+2) (w2.alloc (.cells #[.int .i64 (k:Int),.bool false] 116)) (by exact HRw3.out) (Nat.le_refl _) hqw3 ?_; intro vw3 w3 hownw3 hbw3; have HOw3:=Lib.hid hownw3; have HAXw3:=Lib.hid (HAAw3.out.keepH hbw3); have hzw3:w.heap.size+2≤w3.heap.size:=HAXw3.out.thr.2; have yw4:=cell_newH w3 (k:Int) true 116; have yaw4:=yw4.1; have ybw4:=yw4.2; have HAAw4:=Lib.hid (HAXw3.out.after ((Below.refl _ _).alloc (Nat.le_refl _) (.cells #[.int .i64 (k:Int),.bool true] 116))); have hqw4:w.heap.size+2≤(w3.alloc (.cells #[.int .i64 (k:Int),.bool true] 116)).heap.size:=HAAw4.out.thr.2; have HRw4:=Lib.hid (Below.refl (w.heap.size+2) (w3.alloc (.cells #[.int .i64 (k:Int),.bool true] 116)))) | (at_builtin; refine wpList_appH _ rfl (.tmp 42) (.tmp 45) 93 rfl (w.heap.size+2) 116 16 #[.int .i64 0,.bool false] Tryzx.underlying93 infoHng rfl (by decide) _ (L ++ [((k:Int),false)]) rfl (by exact HOw3.out.alloc _) w3.heap.size 1 (k:Int) true rfl (by exact yaw4) (by exact ybw4) (by simp; omega) (w.heap.size+2) (w3.alloc (.cells #[.int .i64 (k:Int),.bool true] 116)) (by exact HRw4.out) (Nat.le_refl _) hqw4 ?_; intro vw4 w4 hownw4 hbw4; have HOw4:=Lib.hid hownw4; have HAXw4:=Lib.hid (HAAw4.out.keepH hbw4); have hzw4:w.heap.size+2≤w4.heap.size:=HAXw4.out.thr.2));clear hownw3 hbw3 hownw4 hbw4 yaw3 ybw3 yw3 yaw4 ybw4 yw4;go_wp2;go_roundw
      case rel=>exact ⟨k+1,by go_num,by omega,Lib.hid (by rw [e00.out hf0 hg0]; exact HOw4.out),HAXw4⟩
      case measure=>simp [intOf]; omega
     ·have hq1:(g == 0)=false:=by simp [hg0]
      have yw3:=cell_newH w2 (k:Int) false 116;have yaw3:=yw3.1;have ybw3:=yw3.2;have HAAw3:=Lib.hid (HA2.out.after ((Below.refl _ _).alloc (Nat.le_refl _) (.cells #[.int .i64 (k:Int),.bool false] 116)));have hqw3:w.heap.size+2≤(w2.alloc (.cells #[.int .i64 (k:Int),.bool false] 116)).heap.size:=HAAw3.out.thr.2;have HRw3:=Lib.hid (Below.refl (w.heap.size+2) (w2.alloc (.cells #[.int .i64 (k:Int),.bool false] 116)));go_wp2_with (at_builtin; refine wpList_appH _ rfl (.tmp 35) (.tmp 38) 93 rfl (w.heap.size+2) 116 16 #[.int .i64 0,.bool false] Tryzx.underlying93 infoHng rfl (by decide) _ (L) rfl (by exact HO2.out.alloc _) w2.heap.size 1 (k:Int) false rfl (by exact yaw3) (by exact ybw3) (by simp; omega) (w.heap.size+2) (w2.alloc (.cells #[.int .i64 (k:Int),.bool false] 116)) (by exact HRw3.out) (Nat.le_refl _) hqw3 ?_; intro vw3 w3 hownw3 hbw3);have HOw3:=Lib.hid hownw3;have HAXw3:=Lib.hid (HAAw3.out.keepH hbw3);have hzw3:w.heap.size+2≤w3.heap.size:=HAXw3.out.thr.2;clear hownw3 hbw3 yaw3 ybw3 yw3;go_wp2;go_roundw
      case rel=>exact ⟨k+1,by go_num,by omega,Lib.hid (by rw [e01.out hf0 hg0]; exact HOw3.out),HAXw3⟩
      case measure=>simp [intOf]; omega
    ·have hq0:(f == 0)=false:=by simp [hf0]
     by_cases hg0:g=0
     ·have hq1:(g == 0)=true:=by simp [hg0]
      have yw4:=cell_newH w2 (k:Int) true 116;have yaw4:=yw4.1;have ybw4:=yw4.2;have HAAw4:=Lib.hid (HA2.out.after ((Below.refl _ _).alloc (Nat.le_refl _) (.cells #[.int .i64 (k:Int),.bool true] 116)));have hqw4:w.heap.size+2≤(w2.alloc (.cells #[.int .i64 (k:Int),.bool true] 116)).heap.size:=HAAw4.out.thr.2;have HRw4:=Lib.hid (Below.refl (w.heap.size+2) (w2.alloc (.cells #[.int .i64 (k:Int),.bool true] 116)));go_wp2_with (at_builtin; refine wpList_appH _ rfl (.tmp 42) (.tmp 45) 93 rfl (w.heap.size+2) 116 16 #[.int .i64 0,.bool false] Tryzx.underlying93 infoHng rfl (by decide) _ (L) rfl (by exact HO2.out.alloc _) w2.heap.size 1 (k:Int) true rfl (by exact yaw4) (by exact ybw4) (by simp; omega) (w.heap.size+2) (w2.alloc (.cells #[.int .i64 (k:Int),.bool true] 116)) (by exact HRw4.out) (Nat.le_refl _) hqw4 ?_; intro vw4 w4 hownw4 hbw4);have HOw4:=Lib.hid hownw4;have HAXw4:=Lib.hid (HAAw4.out.keepH hbw4);have hzw4:w.heap.size+2≤w4.heap.size:=HAXw4.out.thr.2;clear hownw4 hbw4 yaw4 ybw4 yw4;go_wp2;go_roundw
      case rel=>exact ⟨k+1,by go_num,by omega,Lib.hid (by rw [e10.out hf0 hg0]; exact HOw4.out),HAXw4⟩
      case measure=>simp [intOf]; omega
     ·have hq1:(g == 0)=false:=by simp [hg0]
      go_wp2;go_roundw
      case rel=>exact ⟨k+1,by go_num,by omega,Lib.hid (by rw [e11.out hf0 hg0]; exact HO2.out),HA2⟩
      case measure=>simp [intOf]; omega
   ·obtain rfl:n=k:=by omega
    obtain ⟨A7,c7,rfl,h7⟩:=HO.out.slice;have H7:=Lib.hid h7;clear h7;go_wp2;go_ret;exact ⟨A7,c7,by rw [HF.out]; rfl,by rw [HF.out]; exact H7.out,HA.out.below⟩
end
end X
namespace X
open Go.RowKit Go.Maps
open Classical in
noncomputable def dcnt (js:List Int):Nat→Nat
 | 0=>0
 | m+1=>dcnt js m+if ∃ i,i<m∧nth js i=nth js m then 0 else 1
open Classical in
theorem dcnt_s (js:List Int) (m:Nat):dcnt js (m+1)=dcnt js m+if ∃ i,i<m∧nth js i=nth js m then 0 else 1:=rfl
theorem dcnt_le (js:List Int):∀ m,dcnt js m≤m
 | 0=>Nat.le_refl _
 | m+1=>by
  have:=dcnt_le js m;rw [dcnt_s];split <;> omega
open Classical in
noncomputable def newB (js:List Int) (k i:Nat):Bool:=decide (∀ t,t<i→nth js t ≠ nth js k)
theorem newB_0 (js:List Int) (k:Nat):newB js k 0=true:=by simp [newB]
theorem newB_yes {js:List Int} {k i:Nat} (h:newB js k i=true) (hne:nth js i ≠ nth js k):newB js k (i+1)=true:=by
 simp only [newB,decide_eq_true_eq] at h ⊢;intro t ht;by_cases e:t=i
 ·subst e; exact hne
 ·exact h t (by omega)
theorem newB_no {js:List Int} {k i:Nat} (he:nth js i=nth js k):newB js k (i+1)=false:=by
 simp only [newB,decide_eq_false_iff_not];exact fun h=>h i (by omega) he
theorem newB_stay {js:List Int} {k i:Nat} (h:newB js k i=false):newB js k (i+1)=false:=by
 simp only [newB,decide_eq_false_iff_not] at h ⊢;exact fun h2=>h (fun t ht=>h2 t (by omega))
theorem dcnt_new {js:List Int} {k:Nat} (h:newB js k k=true):dcnt js (k+1)=dcnt js k+1:=by
 simp only [newB,decide_eq_true_eq] at h;have:¬ ∃ i,i<k∧nth js i=nth js k:=fun ⟨i,h1,h2⟩=>h i h1 h2
 simp [dcnt,this]
theorem dcnt_old {js:List Int} {k:Nat} (h:newB js k k=false):dcnt js (k+1)=dcnt js k:=by
 simp only [newB,decide_eq_false_iff_not] at h;have:∃ i,i<k∧nth js i=nth js k:=by
  false_or_by_contra
  rename_i hc
  exact h (fun t ht e=>hc ⟨t,ht,e⟩)
 rw [dcnt_s,if_pos this,Nat.add_zero]
def keyJ (x:Int):Lit := .int .i64 x
theorem keyJ_ne {x y:Int} (h:x ≠ y):keyJ x ≠ keyJ y:=fun e=>h (by simpa [keyJ] using e)
theorem keyJ_is (x:Int):WideAt.IsKeyLit (keyJ x):=by trivial
def JMap (D:DataW Unit) (js:List Int) (k:Nat):Prop:=(∀ x,has D (keyJ x)=true ↔ ∃ i,i<k∧nth js i=x)∧size D=dcnt js k
theorem jmap_0 (js:List Int):JMap (.map []) js 0:=⟨fun x=>by simp [has],rfl⟩
theorem jmap_put {D:DataW Unit} {js:List Int} {k:Nat} (h:JMap D js k) (ht:Tidy D) (d:DataW Unit):JMap (D.put (keyJ (nth js k)) d) js (k+1):=by
 refine ⟨fun x => ?_,?_⟩
 ·by_cases e:x=nth js k
  ·subst e
   rw [has_put_same ht.isMap (keyJ_is _)];exact ⟨fun _=>⟨k,by omega,rfl⟩,fun _=>rfl⟩
  ·rw [has_put_other (keyJ_ne e),h.1 x]
   constructor
   ·rintro ⟨i,h1,h2⟩
    exact ⟨i,by omega,h2⟩
   ·rintro ⟨i,h1,h2⟩
    by_cases ei:i=k
    ·subst ei; exact absurd h2.symm e
    ·exact ⟨i,by omega,h2⟩
 ·rw [size_put ht,h.2]
  by_cases hh:has D (keyJ (nth js k))=true
  ·have h2:=(h.1 _).1 hh
   rw [dcnt_s,if_pos hh,if_pos h2,Nat.add_zero]
  ·have h2:¬ ∃ i,i<k∧nth js i=nth js k:=fun h3=>hh ((h.1 _).2 h3)
   rw [if_neg hh];simp [dcnt,h2]
end X
namespace X
open Go.RowKit Go.Maps
theorem lawIntJ:Keyed Tryzx.prog 3:=int_keyed Tryzx.underlying3
theorem wf_inJ {x:Int} (h : -9223372036854775808≤x∧x≤9223372036854775807):(Lit.int .i64 x).wf=true:=by
 simp [Lit.wf,IntKind.min,IntKind.max,IntKind.signed,IntKind.bits];omega
section
variable (A : Option Addr) (m c : Nat) (js : List Int) (w : World) (h : HngAt w A m js) (hm : m ≤ 1048576) (hj : ∀ i, i < m → 0 ≤ nth js i ∧ nth js i ≤ 1048576)
include h hm hj
omit hj in
set_option maxRecDepth 100000 in
set_option maxHeartbeats 3200000 in
theorem sJts_any:Calls Tryzx.prog 58 #[.slice A m c] w fun e w'=>e = .returned (.int .i64 (dcnt js m:Nat))∧Below w.heap.size w w':=by
 have HH:=Lib.hid h
 clear h
 go_enter Tryzx.func58,Tryz.ntmps58
 go_wp2
 go_loopw [3,4] (fun v3 v4 wr=>∃ k:Nat,v3 = .int .i64 (dcnt js k:Nat)∧v4 = .int .i64 k∧k≤m∧Hid (Below w.heap.size w wr)) (fun _ v4 _=>m - (intOf v4).toNat)
 case atStart=>exact ⟨0,rfl,rfl,Nat.zero_le _,Lib.hid (Below.refl _ _)⟩
 case round =>
  obtain ⟨k,rfl,rfl,hk,HB⟩:=hrel
  have hdl:=dcnt_le js k
  by_cases hlt:k<m
  ·have ki:(k:Int)<(m:Int):=by omega
   have k0:(0:Int)≤(k:Int):=by omega
   have i1:IntKind.i64.wrap ((k:Int)+1)=(k:Int)+1:=IntWalk.i64_in _ (by omega)
   have i2:IntKind.i64.wrap (((dcnt js k:Nat):Int)+1)=((dcnt js k:Nat):Int)+1:=IntWalk.i64_in _ (by omega)
   obtain ⟨b,off,rfl,hbl,hc⟩:=HH.out (by omega)
   have HC:=Lib.hid hc
   clear hc
   go_wp2
   go_loopw [5,6] (fun v5 v6 wr=>∃ i:Nat,v5 = .bool (newB js k i)∧v6 = .int .i64 i∧i≤k∧Hid (Below w.heap.size w wr)) (fun _ v6 _=>k - (intOf v6).toNat)
   case atStart=>exact ⟨0,by rw [newB_0],rfl,Nat.zero_le _,HB⟩
   case round =>
    clear HB
    obtain ⟨i,rfl,rfl,hi,HB⟩:=hrel
    by_cases hil:i<k
    ·have ii:(i:Int)<(k:Int):=by omega
     have i0:(0:Int)≤(i:Int):=by omega
     have im:(i:Int)<(m:Int):=by omega
     have i3:IntKind.i64.wrap ((i:Int)+1)=(i:Int)+1:=IntWalk.i64_in _ (by omega)
     have x0:wr.cell? ⟨b,off+i*2,none⟩=some (.int .i64 (nth js i)):=(HB.out.cell (p:=⟨b,off+i*2,none⟩) hbl).trans (HC.out i (by omega)).1
     have x1:wr.cell? ⟨b,off+k*2,none⟩=some (.int .i64 (nth js k)):=(HB.out.cell (p:=⟨b,off+k*2,none⟩) hbl).trans (HC.out k (by omega)).1
     cases hn:newB js k i
     ·have HN:=Lib.hid (newB_stay hn)
      clear hn
      go_wp2_with fail
      go_quiet (fail)
      go_wp2
      go_roundw
      case rel=>exact ⟨i+1,by rw [HN.out],by go_num,by omega,Lib.hid (below_drewN HB.out _)⟩
      case measure=>simp [intOf]; omega
     ·by_cases he:nth js i=nth js k
      ·have HN:=Lib.hid (newB_no (i:=i) he)
       have hq:(nth js i != nth js k)=false:=by simp [he]
       clear hn
       go_wp2_with fail
       go_quiet (fail)
       go_wp2
       go_roundw
       case rel=>exact ⟨i+1,by rw [HN.out],by go_num,by omega,Lib.hid (below_drewN HB.out _)⟩
       case measure=>simp [intOf]; omega
      ·have HN:=Lib.hid (newB_yes hn he)
       have hq:(nth js i != nth js k)=true:=by simp [he]
       clear hn
       go_wp2_with fail
       go_quiet (fail)
       go_wp2
       go_roundw
       case rel=>exact ⟨i+1,by rw [HN.out],by go_num,by omega,Lib.hid (below_drewN HB.out _)⟩
       case measure=>simp [intOf]; omega
    ·obtain rfl:k=i:=by omega
     cases hn:newB js k k
     ·have HN:=Lib.hid (dcnt_old hn)
      clear hn
      go_wp2
      go_roundw
      case rel=>exact ⟨k+1,by rw [HN.out],by go_num,by omega,HB⟩
      case measure=>simp [intOf]; omega
     ·have HN:=Lib.hid (dcnt_new hn)
      clear hn
      go_wp2
      go_roundw
      case rel=>exact ⟨k+1,by rw [HN.out]; go_num,by go_num,by omega,HB⟩
      case measure=>simp [intOf]; omega
  ·obtain rfl:m=k:=by omega
   go_wp2
   go_ret
   exact ⟨rfl,HB.out⟩
set_option maxRecDepth 100000 in
set_option maxHeartbeats 3200000 in
theorem iJts_any:Calls Tryzx.prog 60 #[.slice A m c] w fun e w'=>e = .returned (.int .i64 (dcnt js m:Nat))∧Below w.heap.size w w':=by
 have HH:=Lib.hid h;have hmm := @run_makeMap Tryzx.prog;clear h;go_enter Tryzx.func60,Tryz.ntmps60;go_wp2;go_loopw [9] (fun v9 wr=>∃ (k:Nat) (D:DataW Unit),v9 = .int .i64 k∧k≤m∧Hid (wr.ownsMap Tryzx.prog 3 (plainElem Tryzx.prog 4) w.heap.size k D)∧Hid (JMap D js k)∧Hid (Below w.heap.size w wr)) (fun v9 _=>m - (intOf v9).toNat)
 case atStart=>exact ⟨0,.map [],rfl,Nat.zero_le _,Lib.hid (World.ownsMap_made w Tryzx.prog 3 _),Lib.hid (jmap_0 js),Lib.hid ((Below.refl _ _).alloc (Nat.le_refl _) _)⟩
 case round =>
  clear hmm;obtain ⟨k,D,rfl,hk,HO,HJ,HB⟩:=hrel;by_cases hlt:k<m
  ·have ki:(k:Int)<(m:Int):=by omega
   have k0:(0:Int)≤(k:Int):=by omega
   have i1:IntKind.i64.wrap ((k:Int)+1)=(k:Int)+1:=IntWalk.i64_in _ (by omega);obtain ⟨b,off,rfl,hbl,hc⟩:=HH.out (by omega);obtain ⟨hc1,o,hc2⟩:=hc k hlt;have x0:wr.cell? ⟨b,off+k*2,none⟩=some (.int .i64 (nth js k)):=(HB.out.cell (p:=⟨b,off+k*2,none⟩) hbl).trans hc1;have x1:wr.cell? ⟨b,off+k*2+1,none⟩=some (.bool o):=(HB.out.cell (p:=⟨b,off+k*2+1,none⟩) hbl).trans hc2;have hz:=HB.out.size;have y0:(wr.alloc (.cells #[.int .i64 (nth js k),.bool o] 116)).cell? ⟨wr.heap.size,0,none⟩=some (.int .i64 (nth js k)):=(cell_newH _ _ _ _).1;have y1:(wr.alloc (.cells #[.int .i64 (nth js k),.bool o] 116)).cell? ⟨wr.heap.size,1,none⟩=some (.bool o):=(cell_newH _ _ _ _).2;have HO2:=Lib.hid (HO.out.alloc (.cells #[.int .i64 (nth js k),.bool o] 116));have HB2:=Lib.hid (HB.out.alloc hz (.cells #[.int .i64 (nth js k),.bool o] 116));have HJ2:Hid (JMap (D.put (keyJ (nth js k)) (.lit (.bool true))) js (k+1)):=Lib.hid (jmap_put HJ.out (HO.out.tidy lawIntJ) _);clear hc hc1 hc2;have hkey:keyOf Tryzx.prog 3 (.int .i64 (nth js k))=some (keyJ (nth js k)):=keyOf_int_mk Tryzx.underlying3 (wf_inJ (x:=nth js k) (by have:=hj k hlt; omega))
   go_wp2_with (at_mapUpdate; refine wpList_mapUpdate_own _ rfl (.tmp 13) (.tmp 15) (.const (.bool true)) 120 rfl 3 4 lawIntJ Tryzx.underlying120 (plainElem Tryzx.prog 4) w.heap.size k D rfl (by exact HO2.out) (by unfold maxLen; omega) (.int .i64 (nth js k)) (.bool true) (keyJ (nth js k)) rfl rfl hkey (.lit (.bool true)) [] (plainElem_bool Tryzx.underlying4 true) ?_; intro w3 hown3 hgr3);have HO3:=Lib.hid hown3;have HB3:=Lib.hid (HB2.out.grown hgr3 (by simp; omega) (fun j hj=>by cases hj; exact Nat.le_refl _));clear hown3 hgr3 hkey x0 x1 y0 y1;go_wp2;go_roundw
   case rel=>exact ⟨k+1,_,by go_num,by omega,HO3,HJ2,HB3⟩
   case measure=>simp [intOf]; omega
  ·obtain rfl:m=k:=by omega
   have hs:=HJ.out.2;go_wp2_with (at_len; refine wpList_len_own _ rfl (.tmp 17) 120 rfl 3 4 Tryzx.underlying120 (plainElem Tryzx.prog 4) w.heap.size m D rfl (by exact HO.out) ?_);go_ret;exact ⟨rfl,HB.out⟩
end
end X
end Go.Proofs.YtodneggnnipcnaaGreat
