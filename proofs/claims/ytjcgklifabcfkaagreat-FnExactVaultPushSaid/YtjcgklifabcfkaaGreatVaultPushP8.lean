/-
  Texts that the law stands on, part 8.
-/
import Derived.Test.YtjcgklifabcfkaaGreatVaultPushP1
import Derived.Test.YtjcgklifabcfkaaGreatVaultPushP2
import Derived.Test.YtjcgklifabcfkaaGreatVaultPushP7
import Derived.Test.YtjcgklifabcfkaaGreatM18
set_option maxRecDepth 100000
set_option linter.unusedVariables false
set_option linter.unusedSimpArgs false
namespace Go.Proofs.YtjcgklifabcfkaaGreat
namespace X
open Go.RowKit
set_option maxRecDepth 100000 in
set_option maxHeartbeats 1600000 in
theorem fnExactVaultPush.walk (A0:Option Addr) (n0 c0:Nat) (L0:List (Nat × List Int)) (hm0:n0≤maxLen) (B0:Option Addr) (p0 d0:Nat) (M0:List (Nat × List Int)) (hk0:p0≤maxLen) (w:World) (a0_:NestAt w w.heap.size 4 A0 n0 L0) (f0_:NestAt w w.heap.size 3 B0 p0 M0) :
  Calls Tryzx.prog 6 #[.agg #[.slice A0 n0 c0,.slice B0 p0 d0]] w fun e w'=>e = .returned (.bool true)∧Below w.heap.size w w':=by
 have hm0':n0≤9223372036854775807:=by unfold maxLen at hm0; omega
 have hk0':p0≤9223372036854775807:=by unfold maxLen at hk0; omega
 obtain ⟨tx,tb,hE⟩:=vpV_ex L0 n0 M0 p0;have htx:(tx != tx)=false:=by simp
 have htb:(tb != tb)=false:=by cases tb <;> rfl
 have b_0:Below w.heap.size w w:=Below.refl _ _;have a0_0:=a0_;have f0_0:=f0_;have hb_1:Below w.heap.size w (w.alloc (.cells #[.slice A0 n0 c0,.slice B0 p0 d0] 25)):=(Below.refl _ _).alloc (Nat.le_refl _) _;have b_1:=below_then b_0 hb_1;clear b_0;have a0_1:=a0_0.after hb_1;clear a0_0;have f0_1:=f0_0.after hb_1;clear f0_0;clear hb_1;have bx0_1:Box2 (w.alloc (.cells #[.slice A0 n0 c0,.slice B0 p0 d0] 25)) w.heap.size (.slice A0 n0 c0) (.slice B0 p0 d0):=Box2.new _ _ _ _;go_enter Tryzx.func6,Tryz.ntmps6;go_wp2_with fail
 refine (szVault_any A0 n0 c0 L0 B0 p0 d0 M0 _ _ a0_1 f0_1 (by omega) (by omega) hm0' hk0').mono ?_;rintro e w2 ⟨r2,rfl,hb_2,hr2⟩;have b_2:=below_then b_1 hb_2;clear b_1;have a0_2:=a0_1.after hb_2;clear a0_1;have f0_2:=f0_1.after hb_2;clear f0_1;have bx0_2:=bx0_1.after hb_2;clear bx0_1;have cbx0_2:=bx0_2.1;have ebx0_2:=bx0_2.2.1;clear hb_2;rcases hr2 with rfl | hr2
 ·go_wp2
  go_ret;exact ⟨rfl,b_2⟩
 obtain ⟨hr2a,hr2b,⟨hr2c,hr2d,hr2e⟩,hr2f,hr2g,hr2h⟩:=hr2;have HN0:=Lib.hid (show ∀ i,i<n0→rowN L0 i≤1048576 from fun i hi=>by have:=hr2d i hi; omega)
 have HM0:=Lib.hid (show ∀ i,i<p0→rowN M0 i≤1048576 from fun i hi=>by have:=hr2g i hi; omega)
 have hS0:sumN L0 n0≤1048576:=by omega
 have hT0:sumN M0 p0≤1048576:=by omega
 have hp0:p0≤1048576:=by omega
 clear hr2d hr2g;have hn0:n0≤1048576:=by omega
 have ht0:¬ r2<0:=by omega
 go_wp2_with fail
 refine (toVault_any A0 n0 c0 L0 B0 p0 d0 M0 _ a0_2 hn0 HN0.out f0_2 hp0 HM0.out).mono ?_;rintro e w3 ⟨g3,j3,rfl,_,_,r_3,q_3,hb_3⟩;have b_3:=below_then b_2 hb_3;clear b_2;have a0_3:=a0_2.after hb_3;clear a0_2;have f0_3:=f0_2.after hb_3;clear f0_2;have bx0_3:=bx0_2.after hb_3;clear bx0_2;have cbx0_3:=bx0_3.1;have ebx0_3:=bx0_3.2.1;clear cbx0_2;clear ebx0_2;have s0_3:=r_3.nestAt a0_.1 a0_.lens HN0.out;have us0_3:=q_3.nestAt f0_.1 f0_.lens HM0.out;clear r_3 q_3 hb_3;go_wp2_with fail
 refine ((sPush_any _ _ _ L0 _ _ _ M0 _ s0_3 hn0 HN0.out us0_3 hp0 HM0.out).mono fun _ _ hh=>vp_at hE hh).mono ?_;rintro e w4 ⟨rfl,hb_4⟩;have b_4:=below_then b_3 hb_4;clear b_3;have a0_4:=a0_3.after hb_4;clear a0_3;have f0_4:=f0_3.after hb_4;clear f0_3;have bx0_4:=bx0_3.after hb_4;clear bx0_3;have s0_4:=s0_3.after hb_4;clear s0_3;have us0_4:=us0_3.after hb_4;clear us0_3;have cbx0_4:=bx0_4.1;have ebx0_4:=bx0_4.2.1;clear cbx0_3;clear ebx0_3;clear hb_4;clear s0_4;clear us0_4;go_wp2_with fail
 refine (toVault_any A0 n0 c0 L0 B0 p0 d0 M0 _ a0_4 hn0 HN0.out f0_4 hp0 HM0.out).mono ?_;rintro e w5 ⟨g5,j5,rfl,_,_,r_5,q_5,hb_5⟩;have b_5:=below_then b_4 hb_5;clear b_4;have a0_5:=a0_4.after hb_5;clear a0_4;have f0_5:=f0_4.after hb_5;clear f0_4;have bx0_5:=bx0_4.after hb_5;clear bx0_4;have cbx0_5:=bx0_5.1;have ebx0_5:=bx0_5.2.1;clear cbx0_4;clear ebx0_4;have s0_5:=r_5.nestAt a0_.1 a0_.lens HN0.out;have us0_5:=q_5.nestAt f0_.1 f0_.lens HM0.out;clear r_5 q_5 hb_5;have hb_6:Below w5.heap.size w5 (w5.alloc (.cells #[.slice (some ⟨g5,0,none⟩) n0 n0,.slice (some ⟨j5,0,none⟩) p0 p0] 31)):=(Below.refl _ _).alloc (Nat.le_refl _) _;have b_6:=below_then b_5 hb_6;clear b_5;have a0_6:=a0_5.after hb_6;clear a0_5;have f0_6:=f0_5.after hb_6;clear f0_5;have bx0_6:=bx0_5.after hb_6;clear bx0_5;have s0_6:=s0_5.after hb_6;clear s0_5;have us0_6:=us0_5.after hb_6;clear us0_5;have cbx0_6:=bx0_6.1;have ebx0_6:=bx0_6.2.1;clear cbx0_5;clear ebx0_5;clear hb_6;have by0_6:Box2 (w5.alloc (.cells #[.slice (some ⟨g5,0,none⟩) n0 n0,.slice (some ⟨j5,0,none⟩) p0 p0] 31)) w5.heap.size (.slice (some ⟨g5,0,none⟩) n0 n0) (.slice (some ⟨j5,0,none⟩) p0 p0):=Box2.new _ _ _ _;have cby0_6:=by0_6.1;have eby0_6:=by0_6.2.1;go_wp2_with fail
 refine ((iPush_any _ _ _ L0 _ _ _ M0 _ s0_6 hn0 HN0.out us0_6 hp0 HM0.out).mono fun _ _ hh=>vp_at hE hh).mono ?_;rintro e w7 ⟨rfl,hb_7⟩;have b_7:=below_then b_6 hb_7;clear b_6;have a0_7:=a0_6.after hb_7;clear a0_6;have f0_7:=f0_6.after hb_7;clear f0_6;have bx0_7:=bx0_6.after hb_7;clear bx0_6;have s0_7:=s0_6.after hb_7;clear s0_6;have us0_7:=us0_6.after hb_7;clear us0_6;have by0_7:=by0_6.after hb_7;clear by0_6;have cbx0_7:=bx0_7.1;have ebx0_7:=bx0_7.2.1;clear cbx0_6;clear ebx0_6;have cby0_7:=by0_7.1;have eby0_7:=by0_7.2.1;clear cby0_6;clear eby0_6;clear hb_7;go_wp2_with fail
 go_region_held3 (fun w'=>(w'.cell? ⟨w5.heap.size,0,none⟩=some (.slice (some ⟨g5,0,none⟩) n0 n0)∧w'.cell? ⟨w5.heap.size,1,none⟩=some (.slice (some ⟨j5,0,none⟩) p0 p0))∧w'.cell? ⟨w.heap.size,0,none⟩=some (.slice A0 n0 c0)∧w'.cell? ⟨w.heap.size,1,none⟩=some (.slice B0 p0 d0)) (first | exact ⟨⟨cby0_7,eby0_7⟩,cbx0_7,ebx0_7⟩ | exact ⟨⟨dy.1,dy.2.1⟩,dx.1,dx.2.1⟩ | exact ⟨⟨ey.1,ey.2.1⟩,ex.1,ex.2.1⟩) ((first | (go_at_call 9; refine (toVault_any A0 n0 c0 L0 B0 p0 d0 M0 _ (by exact a0_7) hn0 HN0.out (by exact f0_7) hp0 HM0.out).mono ?_; rintro e w8 ⟨g8,j8,rfl,_,_,r_8,q_8,hbx⟩; have hb_8:=below_undrew hbx; have e1:=s0_7.after hb_8; have e2:=us0_7.after hb_8; have v1:=r_8.nestAt a0_.1 a0_.lens HN0.out; have v2:=q_8.nestAt f0_.1 f0_.lens HM0.out; have dy:=by0_7.after hb_8; have dx:=bx0_7.after hb_8) | (go_at_call 11; refine (eqVault_same _ _ _ _ _ L0 _ _ _ _ _ M0 _ (by exact e1) (by exact v1) hn0 HN0.out (by exact e2) (by exact v2) hp0 HM0.out).mono ?_; rintro e w9 ⟨rfl,hb_9⟩; have ey:=dy.after hb_9; have ex:=dx.after hb_9)));have b_8:=below_then b_7 hb_8;clear b_7;have a0_8:=a0_7.after hb_8;clear a0_7;have f0_8:=f0_7.after hb_8;clear f0_7;have bx0_8:=bx0_7.after hb_8;clear bx0_7;have s0_8:=s0_7.after hb_8;clear s0_7;have us0_8:=us0_7.after hb_8;clear us0_7;have by0_8:=by0_7.after hb_8;clear by0_7;have cbx0_8:=bx0_8.1;have ebx0_8:=bx0_8.2.1;clear cbx0_7;clear ebx0_7;have cby0_8:=by0_8.1;have eby0_8:=by0_8.2.1;clear cby0_7;clear eby0_7;have b_9:=below_then b_8 hb_9;clear b_8;have a0_9:=a0_8.after hb_9;clear a0_8;have f0_9:=f0_8.after hb_9;clear f0_8;have bx0_9:=bx0_8.after hb_9;clear bx0_8;have s0_9:=s0_8.after hb_9;clear s0_8;have us0_9:=us0_8.after hb_9;clear us0_8;have by0_9:=by0_8.after hb_9;clear by0_8;have cbx0_9:=bx0_9.1;have ebx0_9:=bx0_9.2.1;clear cbx0_8;clear ebx0_8;have cby0_9:=by0_9.1;have eby0_9:=by0_9.2.1;clear cby0_8;clear eby0_8;clear hb_8 hb_9;go_wp2;go_ret;exact ⟨rfl,b_9⟩
end X
end Go.Proofs.YtjcgklifabcfkaaGreat
