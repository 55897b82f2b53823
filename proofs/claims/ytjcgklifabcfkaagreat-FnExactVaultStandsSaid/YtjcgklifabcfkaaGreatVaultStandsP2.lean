/-
  Texts that the law stands on, part 2.
-/
import Derived.Test.YtjcgklifabcfkaaGreatVaultStandsP1
import Derived.Test.YtjcgklifabcfkaaGreatN10
import Derived.Test.YtjcgklifabcfkaaGreatN15
import Derived.Test.YtjcgklifabcfkaaGreatN18
import Derived.Test.YtjcgklifabcfkaaGreatN23
import Derived.Deep.RegionHeld3
import Derived.Outline
set_option maxRecDepth 100000
set_option linter.unusedVariables false
set_option linter.unusedSimpArgs false
namespace Go.Proofs.YtjcgklifabcfkaaGreat
section
open Go.RowKit
structure Within (lo hi:Nat) (w w':World):Prop where
 os:w'.os=w.os
 tape:w'.tape=w.tape
 output:w'.output=w.output
 size:w'.heap.size=w.heap.size
 block:∀ k,k<lo ∨ hi≤k→w'.heap[k]?=w.heap[k]?
section
variable {lo hi : Nat} {w w' w'' : World}
theorem Within.refl (lo hi:Nat) (w:World):Within lo hi w w:=⟨rfl,rfl,rfl,rfl,fun _ _=>rfl⟩
theorem Within.trans (h:Within lo hi w w') (h':Within lo hi w' w''):Within lo hi w w'':=⟨h'.os.trans h.os,h'.tape.trans h.tape,h'.output.trans h.output,h'.size.trans h.size,fun k hk=>(h'.block k hk).trans (h.block k hk)⟩
theorem Within.below (h:Within lo hi w w'):Below lo w w':=⟨h.os,h.tape,h.output,Nat.le_of_eq h.size.symm,fun k hk=>h.block k (.inl hk)⟩
theorem Within.row {g:Nat} {t:TypeId} {n:Nat} {f:Nat→Value} (h:Within lo hi w w') (hr:w.rowIs g t n f) (hg:g<lo ∨ hi≤g):w'.rowIs g t n f:=hr.of_block (h.block g hg)
theorem Within.own {base:Nat} {E:TypeId} {v:Value} {xs:List Int} (h:Within lo hi w w') (ho:OwnV w base E v xs) (hb:hi≤base):OwnV w' base E v xs:=by
 rcases ho.form with ⟨rfl,rfl⟩ | ⟨g',cap,rfl,hi'⟩
 ·exact OwnV.nil _ _ _
 ·refine ⟨hi'.1,?_⟩
  rcases hi'.2 with h2 | ⟨g'',cap',cur,h1,h2,h3,hr⟩
  ·exact .inl h2
  ·simp at h1
   obtain ⟨rfl,rfl⟩:=h1;exact .inr ⟨g',cap,cur,rfl,h2,(h.block g' (.inr (by omega))).trans h3,hr⟩
theorem Within.cell (h:Within lo hi w w') {p:Addr} (hp:p.block<lo ∨ hi≤p.block):w'.cell? p=w.cell? p:=World.cell?_of_block (w:=w) (h.block _ hp)
end
def RowI (w:World) (lo hi g:Nat) (E:TypeId) (m:Nat):Prop:=∃ f,w.rowIs g E m f∧IntRow f∧lo≤g∧g<hi
section
variable {w w' : World} {lo hi g : Nat} {E : TypeId} {m : Nat}
theorem RowI.of_row {f:Nat→Value} (h:w.rowIs g E m f) (hi':IntRow f) (h1:lo≤g) (h2:w.heap.size≤hi):RowI w lo hi g E m:=⟨f,h,hi',h1,Nat.lt_of_lt_of_le h.lt h2⟩
theorem RowI.after (h:RowI w lo hi g E m) (hb:Below w.heap.size w w'):RowI w' lo hi g E m:=by
 obtain ⟨f,h1,h2⟩:=h;exact ⟨f,h1.of_block (hb.block g h1.lt),h2⟩
end
def NestInts (w:World) (lo hi g:Nat) (T E:TypeId) (K n:Nat) (L:List (Nat × List Int)):Prop :=
 lo≤g∧∃ f,w.rowIs g T n f∧∀ i,i<n→∃ gi fi,f i = .slice (some ⟨gi,0,none⟩) (rowN L i) (rowN L i)∧g<gi∧gi<hi∧w.rowIs gi E (rowN L i*K) fi∧IntRow fi
section
variable {w w' : World} {lo hi g : Nat} {T E : TypeId} {K n : Nat} {L : List (Nat × List Int)}
theorem NestInts.of_row (h:NestRow w g T E K n L) (h1:lo≤g) (h2:w.heap.size≤hi):NestInts w lo hi g T E K n L:=by
 obtain ⟨f,hr,hf⟩:=h;refine ⟨h1,f,hr,fun i hi' => ?_⟩;obtain ⟨gi,e1,e2,e3⟩:=hf i hi';exact ⟨gi,_,e1,e2,Nat.lt_of_lt_of_le e3.lt h2,e3,intRow_ints _⟩
theorem NestInts.after (h:NestInts w lo hi g T E K n L) (hb:Below w.heap.size w w'):NestInts w' lo hi g T E K n L:=by
 obtain ⟨h1,f,hr,hf⟩:=h;refine ⟨h1,f,hr.of_block (hb.block g hr.lt),fun i hi' => ?_⟩;obtain ⟨gi,fi,e1,e2,e3,e4,e5⟩:=hf i hi';exact ⟨gi,fi,e1,e2,e3,e4.of_block (hb.block gi e4.lt),e5⟩
theorem rowIs_size {t:TypeId} {m m':Nat} {f f':Nat→Value} (h:w.rowIs g t m f) (h':w.rowIs g t m' f'):m=m':=by
 obtain ⟨c,hb,hn,_⟩:=h;obtain ⟨c',hb',hn',_⟩:=h';rw [hb] at hb';simp at hb';rw [← hn,← hn',hb']
theorem NestInts.only {gk m:Nat} {fk fk':Nat→Value} (h:NestInts w lo hi g T E K n L) (hg:g<gk) (ho:Only gk w w') (hr0:w.rowIs gk E m fk) (hr:w'.rowIs gk E m fk') (hk:IntRow fk'):NestInts w' lo hi g T E K n L:=by
 obtain ⟨h1,f,hrow,hf⟩:=h;refine ⟨h1,f,ho.row hrow (by omega),fun i hi' => ?_⟩;obtain ⟨gi,fi,e1,e2,e3,e4,e5⟩:=hf i hi';by_cases e:gi=gk
 ·subst e
  have:=rowIs_size e4 hr0;exact ⟨gi,fk',e1,e2,e3,by rw [this]; exact hr,hk⟩
 ·exact ⟨gi,fi,e1,e2,e3,ho.row e4 e,e5⟩
end
end
namespace X
open Go.RowKit
theorem infoArch:(Tryzx.prog.info? 45).map (fun i=>(i.zero,i.size,i.bytes))=some (some (.agg #[.slice none 0 0]),1,24):=by kernel_rfl
set_option maxHeartbeats 800000 in
theorem toArchS_any (A:Option Addr) (n c:Nat) (L:List (Nat × List Int)) (w:World) (h:NestAt w w.heap.size 4 A n L) (hn:n≤1048576) (hr:∀ i,i<n→rowN L i≤1048576) :
  Calls Tryzx.prog 31 #[.slice A n c] w fun e w'=>∃ g,e = .returned (.slice (some ⟨g,0,none⟩) n n)∧w.heap.size≤g∧NestRow w' g 45 110 4 n L∧Below w.heap.size w w':=by
 have H:=Lib.hid h;have HR:=Lib.hid hr;clear h hr;have hmk:=fun W=>run_make_recs (P:=Tryzx.prog) 28 45 1 24 #[.slice none 0 0] Tryzx.underlying28 infoArch n (by omega) hn W
 rw [Nat.mul_one] at hmk;go_enter Tryzx.func31,Tryz.ntmps31;go_wp2;clear hmk;go_loopw [4] (fun i wr=>∃ k:Nat,k≤n∧i = .int .i64 k∧NestTo wr w.heap.size 45 110 4 n L k∧Below w.heap.size w wr) (fun i _=>n - (intOf i).toNat)
 case atStart=>exact ⟨0,Nat.zero_le _,rfl,NestTo.start w _ _ _ _ _,(Below.refl _ _).alloc (Nat.le_refl _) _⟩
 case round =>
  obtain ⟨k,hk,rfl,hrow,hb⟩:=hrel;by_cases hlt:k<n
  ·obtain ⟨b,off,rfl,hbB,hc⟩:=H.out.2 (by omega)
   obtain ⟨Ak,ck,hx,hrec,_,_⟩:=hc k hlt;have hx0:wr.cell? ⟨b,off+k,none⟩=some (.slice Ak (rowN L k) ck):=(hb.cell (by exact hbB)).trans hx;have hrec':=(hrec.below hb).mono hb.size;have hrk:=HR.out k hlt;have hz:=hb.size;have HRW:=Lib.hid hrow;have HB:=Lib.hid hb;clear hrow hb hc hx hrec;go_wp2_with fail
   refine (toArch_any _ _ _ (rowZ L k) _ hrec' hrk).mono ?_;rintro e w1 ⟨gi,rfl,hgi,ri,hb1⟩;have hrow1:=HRW.out.after hb1;have hcy:=hrow1.cell hlt;have hfy:=hrow1.frozen k;have hlt1:w.heap.size<gi:=by have:=HRW.out; obtain ⟨f,h1,_⟩:=this; have:=h1.lt; omega
   have HS:=Lib.hid (hrow1.step hlt1 ri);have HB1:=Lib.hid ((HB.out.trans (hb1.mono hz)).setCell (p:=⟨w.heap.size,k,none⟩) (Nat.le_refl _) (.slice (some ⟨gi,0,none⟩) (rowN L k) (rowN L k)));clear hrow1 hb1 ri hrec';go_wp2;go_roundw
   case rel=>exact ⟨k+1,by omega,by go_num,HS.out,HB1.out⟩
   case measure=>simp [intOf]; omega
  ·obtain rfl:k=n:=by omega
   have HRW:=Lib.hid hrow.done;have HB:=Lib.hid hb;clear hrow hb;go_wp2;go_ret;exact ⟨_,rfl,Nat.le_refl _,HRW.out,HB.out⟩
set_option maxHeartbeats 800000 in
theorem szArchS_any (A:Option Addr) (n c:Nat) (L:List (Nat × List Int)) (l:Int) (w:World) (h:NestAt w w.heap.size 4 A n L) (hl0:0≤l) (hl1:l≤1048576) (hn:n≤9223372036854775807) :
  Calls Tryzx.prog 28 #[.slice A n c,.int .i64 l] w (SzPost l n L w):=by
 have H:=Lib.hid h;clear h;by_cases hnl:(n:Int)≤l
 ·have ht:¬ l - (n:Int)<0:=by omega
  go_enter Tryzx.func28,Tryz.ntmps28;go_wp2;go_loopw [1,5] (fun m i wr=>∃ (k:Nat) (r:Int),k≤n∧i = .int .i64 k∧m = .int .i64 r∧0≤r∧r+(sumN L k:Int)≤l∧Below w.heap.size w wr∧Hid (∀ i,i<k→(rowN L i:Int)≤l)) (fun _ i _=>n - (intOf i).toNat)
  case atStart=>exact ⟨0,_,Nat.zero_le _,rfl,rfl,by omega,by simp [sumN]; omega,Below.refl _ _,Lib.hid (fun i hi=>absurd hi (by omega))⟩
  case round =>
   obtain ⟨k,r,hk,rfl,rfl,hr0,hr1,hb,HA⟩:=hrel;have HB:=Lib.hid hb;by_cases hlt:k<n
   ·obtain ⟨b,off,rfl,hbB,hc⟩:=H.out.2 (by omega)
    obtain ⟨Ak,ck,hx,hrec,hcc,hcm⟩:=hc k hlt;have hx0:wr.cell? ⟨b,off+k,none⟩=some (.slice Ak (rowN L k) ck):=(hb.cell (by exact hbB)).trans hx;have hmx:rowN L k≤9223372036854775807:=by unfold maxLen at hcm; omega
    clear hc hx hrec hb;by_cases hle:(rowN L k:Int)≤r
    ·have ht2:¬ r - (rowN L k:Int)<0:=by omega
     have HA':=Lib.hid (show ∀ i,i<k+1→(rowN L i:Int)≤l from fun i hi=>by
      by_cases hik:i=k
      ·subst hik; omega
      ·exact HA.out i (by omega))
     go_wp2_with fail
     refine (szArch_ok _ _ _ _ _ hr0 (by omega) hmx hle).mono ?_;rintro e w1 ⟨rfl,hb1⟩;have HB1:=Lib.hid (HB.out.trans (hb1.mono HB.out.size));clear hb1;go_wp2;go_roundw
     case rel=>exact ⟨k+1,_,by omega,by go_num,rfl,by omega,by simp only [sumN]; omega,HB1.out,HA'⟩
     case measure=>simp [intOf]; omega
    ·go_wp2_with fail
     refine (szArch_no _ _ _ _ _ hr0 (by omega) hmx (by omega)).mono ?_;rintro e w1 ⟨rfl,hb1⟩;have HB1:=Lib.hid (HB.out.trans (hb1.mono HB.out.size));clear hb1;go_wp2;go_ret;exact szPost_no HB1.out
   ·obtain rfl:k=n:=by omega
    clear hb;go_wp2;go_ret;exact szPost_ok HB.out hr0 (by omega) hnl HA.out (by omega)
 ·have ht:l - (n:Int)<0:=by omega
  go_enter Tryzx.func28,Tryz.ntmps28;go_wp2;go_ret;exact szPost_no (Below.refl _ _)
set_option maxHeartbeats 800000 in
theorem eqArchS_same (A A':Option Addr) (n c c':Nat) (L:List (Nat × List Int)) (w:World) (hx:NestAt w w.heap.size 4 A n L) (hy:NestAt w w.heap.size 4 A' n L) (hn:n≤1048576) (hr:∀ i,i<n→rowN L i≤1048576) :
  Calls Tryzx.prog 33 #[.slice A n c,.slice A' n c'] w fun e w'=>e = .returned (.bool true)∧Below w.heap.size w w':=by
 have HX:=Lib.hid hx;have HY:=Lib.hid hy;have HR:=Lib.hid hr;clear hx hy hr;have ht:((n:Int) != (n:Int))=false:=by simp
 go_enter Tryzx.func33,Tryz.ntmps33;go_wp2;go_loopw [5] (fun i wr=>∃ k:Nat,k≤n∧i = .int .i64 k∧Below w.heap.size w wr) (fun i _=>n - (intOf i).toNat)
 case atStart=>exact ⟨0,Nat.zero_le _,rfl,Below.refl _ _⟩
 case round =>
  obtain ⟨k,hk,rfl,hb⟩:=hrel;have HB:=Lib.hid hb;by_cases hlt:k<n
  ·obtain ⟨b,off,rfl,hbB,hc⟩:=HX.out.2 (by omega)
   obtain ⟨b',off',rfl,hbB',hc'⟩:=HY.out.2 (by omega);obtain ⟨Ak,ck,hx,hrec,_,_⟩:=hc k hlt;obtain ⟨Ak',ck',hx',hrec',_,_⟩:=hc' k hlt;have cx0:wr.cell? ⟨b,off+k,none⟩=some (.slice Ak (rowN L k) ck):=(hb.cell (by exact hbB)).trans hx;have cy0:wr.cell? ⟨b',off'+k,none⟩=some (.slice Ak' (rowN L k) ck'):=(hb.cell (by exact hbB')).trans hx';have r1:=(hrec.below hb).mono hb.size;have r2:=(hrec'.below hb).mono hb.size;have hrk:=HR.out k hlt;have hz:=hb.size;have ki:(k:Int)<(n:Int):=by omega
   have k0:(0:Int)≤(k:Int):=by omega
   clear hc hc' hb hx hx' hrec hrec';go_wp2;go_region_held3 (fun w'=>w'.cell? ⟨b,off+k,none⟩=some (.slice Ak (rowN L k) ck)∧w'.cell? ⟨b',off'+k,none⟩=some (.slice Ak' (rowN L k) ck')) (first | (go_keep; done) | (refine ⟨?_,?_⟩ <;> (rw [hcc _ _ (by simp <;> omega)]; go_keep))) ((go_at_call 56; refine (eqArch_same _ _ _ _ _ (rowZ L k) _ (by exact r1) (by exact r2) hrk).mono ?_; rintro e w1 ⟨rfl,hb1⟩; obtain ⟨hcc,hff⟩:=bcell hb1));have HB1:=Lib.hid (HB.out.drew.trans (hb1.mono (by have:=HB.out.size; simp; omega)))
   clear hcc hff hb1;go_wp2;go_roundw
   case rel=>exact ⟨k+1,by omega,by go_num,HB1.out⟩
   case measure=>simp [intOf]; omega
  ·obtain rfl:k=n:=by omega
   clear hb;go_wp2;go_ret;exact ⟨rfl,HB.out⟩
end X
namespace X
open Go.RowKit
theorem infoLoad:(Tryzx.prog.info? 77).map (fun i=>(i.zero,i.size,i.bytes))=some (some (.agg #[.int .i64 0,.int .i64 0,.int .i64 0]),3,24):=by kernel_rfl
set_option maxHeartbeats 400000 in
theorem toLoad_any (x0 x1 x2:Int) (w:World):Calls Tryzx.prog 81 #[.agg #[.int .i64 x0,.int .i64 x1,.int .i64 x2]] w fun e w'=>e = .returned (.agg #[.int .i64 x0,.int .i64 x1,.int .i64 x2])∧Below w.heap.size w w':=by
 go_enter Tryzx.func81,Tryz.ntmps81;go_wp2;exact bodyPost_ret (v := .agg #[.int .i64 x0,.int .i64 x1,.int .i64 x2]) (by simp [results,Tryz.results81,go_sem]) rfl ⟨rfl,(((Below.refl _ _).alloc (Nat.le_refl _) _).alloc (by simp) _).alloc (by simp; omega) _⟩
set_option maxHeartbeats 800000 in
theorem toLoadS_any (A:Option Addr) (n c:Nat) (zs:List Int) (w:World) (h:RecsAt w w.heap.size 3 A n zs) (hn:n≤1048576) :
  Calls Tryzx.prog 55 #[.slice A n c] w fun e w'=>e = .returned (.slice (some ⟨w.heap.size,0,none⟩) n n)∧w'.rowIs w.heap.size 77 (n*3) (ints zs)∧Below w.heap.size w w':=by
 have H:=Lib.hid h;clear h;have hmk:=fun W=>run_make_recs (P:=Tryzx.prog) 46 77 3 24 #[.int .i64 0,.int .i64 0,.int .i64 0] Tryzx.underlying46 infoLoad n (by omega) hn W
 go_enter Tryzx.func55,Tryz.ntmps55;go_wp2;clear hmk;go_loopw [4] (fun i wr=>∃ k:Nat,k≤n∧i = .int .i64 k∧wr.rowIs w.heap.size 77 (n*3) (fill zs (k*3))∧Below w.heap.size w wr) (fun i _=>n - (intOf i).toNat)
 case atStart=>exact ⟨0,Nat.zero_le _,rfl,by rw [Nat.zero_mul]; exact rowIs_made0 w _ _ _ (fun j hj=>by simp at hj; match j,hj with | 0,_=>rfl | 1,_=>rfl | 2,_=>rfl) (by simp) zs,(Below.refl _ _).alloc (Nat.le_refl _) _⟩
 case round =>
  obtain ⟨k,hk,rfl,hrow,hb⟩:=hrel;by_cases hlt:k<n
  ·obtain ⟨b,off,rfl,hbB,hc⟩:=H.out.2 (by omega)
   have hgl:=hrow.lt;have hx0:wr.cell? ⟨b,off+k*3,none⟩=some (.int .i64 (nth zs (k*3))):=(hb.cell (by exact hbB)).trans (hc (k*3) (by omega));have hx1:wr.cell? ⟨b,off+k*3+1,none⟩=some (.int .i64 (nth zs (k*3+1))):=(hb.cell (by exact hbB)).trans (by have:=hc (k*3+1) (by omega); rwa [← Nat.add_assoc] at this)
   have hx2:wr.cell? ⟨b,off+k*3+2,none⟩=some (.int .i64 (nth zs (k*3+2))):=(hb.cell (by exact hbB)).trans (by have:=hc (k*3+2) (by omega); rwa [← Nat.add_assoc] at this)
   have HR:=Lib.hid hrow;have HB:=Lib.hid hb;clear hrow hb hc;go_wp2_with fail
   refine (toLoad_any _ _ _ _).mono ?_;rintro e w1 ⟨rfl,hb1⟩;have HR1:=Lib.hid (below_row hb1 HR.out hgl);have HB1:=Lib.hid (HB.out.trans (hb1.mono HB.out.size));clear hb1;have hy0:w1.cell? ⟨w.heap.size,k*3,none⟩=some (.int .i64 0):=by rw [HR1.out.cell (by omega),fill_at zs (by omega)]
   have hf0:w1.frozen? ⟨w.heap.size,k*3,none⟩=false:=HR1.out.frozen _;have hy1:w1.cell? ⟨w.heap.size,k*3+1,none⟩=some (.int .i64 0):=by rw [HR1.out.cell (by omega),fill_at zs (by omega)]
   have hf1:w1.frozen? ⟨w.heap.size,k*3+1,none⟩=false:=HR1.out.frozen _;have hy2:w1.cell? ⟨w.heap.size,k*3+2,none⟩=some (.int .i64 0):=by rw [HR1.out.cell (by omega),fill_at zs (by omega)]
   have hf2:w1.frozen? ⟨w.heap.size,k*3+2,none⟩=false:=HR1.out.frozen _;go_wp2;go_roundw
   case rel=>exact ⟨k+1,by omega,by go_num,by rw [Nat.add_mul,Nat.one_mul]; exact World.rowIs.congr (World.rowIs.set (World.rowIs.set (World.rowIs.set HR1.out (k*3) _) (k*3+1) _) (k*3+2) _) (fun j _=>fill_step3 zs (k*3) j),(((HB1.out.setCell (Nat.le_refl _) _).setCell (Nat.le_refl _) _).setCell (Nat.le_refl _) _)⟩
   case measure=>simp [intOf]; omega
  ·have hkn:k=n:=by omega
   subst hkn;have HR:=Lib.hid hrow;have HB:=Lib.hid hb;clear hrow hb;go_wp2;go_ret;exact ⟨rfl,HR.out.congr (fun j hj=>fill_end zs hj),HB.out⟩
theorem szLoadS_ok (A:Option Addr) (n c:Nat) (l:Int) (w:World) (h0:0≤l) (h1:l≤1048576) (hn:n≤9223372036854775807) (h:(n:Int)≤l):Calls Tryzx.prog 51 #[.slice A n c,.int .i64 l] w fun e w'=>e = .returned (.int .i64 (l - n))∧w=w':=by
 have ht:¬ l - (n:Int)<0:=by omega
 go_enter Tryzx.func51,Tryz.ntmps51;go_wp2;go_ret;exact ⟨rfl,rfl⟩
theorem szLoadS_no (A:Option Addr) (n c:Nat) (l:Int) (w:World) (h0:0≤l) (h1:l≤1048576) (hn:n≤9223372036854775807) (h:l<(n:Int)):Calls Tryzx.prog 51 #[.slice A n c,.int .i64 l] w fun e w'=>e = .returned (.int .i64 (-1))∧w=w':=by
 have ht:l - (n:Int)<0:=by omega
 go_enter Tryzx.func51,Tryz.ntmps51;go_wp2;go_ret;exact ⟨rfl,rfl⟩
set_option maxHeartbeats 400000 in
theorem eqLoad_same (x0 x1 x2:Int) (w:World):Calls Tryzx.prog 83 #[.agg #[.int .i64 x0,.int .i64 x1,.int .i64 x2],.agg #[.int .i64 x0,.int .i64 x1,.int .i64 x2]] w fun e w'=>e = .returned (.bool true)∧Below w.heap.size w w':=by
 have t0:(x0 != x0)=false:=by simp
 have t1:(x1 != x1)=false:=by simp
 have t2:(x2 != x2)=false:=by simp
 go_enter Tryzx.func83,Tryz.ntmps83;go_wp2;go_ret;exact ⟨rfl,((Below.refl _ _).alloc (Nat.le_refl _) _).alloc (by simp) _⟩
set_option maxHeartbeats 800000 in
theorem eqLoadS_same (A A':Option Addr) (n c c':Nat) (zs:List Int) (w:World) (hx:RecsAt w w.heap.size 3 A n zs) (hy:RecsAt w w.heap.size 3 A' n zs) (hn:n≤1048576) :
  Calls Tryzx.prog 57 #[.slice A n c,.slice A' n c'] w fun e w'=>e = .returned (.bool true)∧Below w.heap.size w w':=by
 have HX:=Lib.hid hx;have HY:=Lib.hid hy;clear hx hy;have ht:((n:Int) != (n:Int))=false:=by simp
 go_enter Tryzx.func57,Tryz.ntmps57;go_wp2;go_loopw [5] (fun i wr=>∃ k:Nat,k≤n∧i = .int .i64 k∧Below w.heap.size w wr) (fun i _=>n - (intOf i).toNat)
 case atStart=>exact ⟨0,Nat.zero_le _,rfl,Below.refl _ _⟩
 case round =>
  obtain ⟨k,hk,rfl,hb⟩:=hrel;have HB:=Lib.hid hb;by_cases hlt:k<n
  ·obtain ⟨b,off,rfl,hbB,hc⟩:=HX.out.2 (by omega)
   obtain ⟨b',off',rfl,hbB',hc'⟩:=HY.out.2 (by omega);have hz:=hb.size;have cx0:wr.cell? ⟨b,off+k*3,none⟩=some (.int .i64 (nth zs (k*3))):=(hb.cell (by exact hbB)).trans (hc (k*3) (by omega));have cy0:wr.cell? ⟨b',off'+k*3,none⟩=some (.int .i64 (nth zs (k*3))):=(hb.cell (by exact hbB')).trans (hc' (k*3) (by omega));have cx1:wr.cell? ⟨b,off+k*3+1,none⟩=some (.int .i64 (nth zs (k*3+1))):=(hb.cell (by exact hbB)).trans (by have:=hc (k*3+1) (by omega); rwa [← Nat.add_assoc] at this)
   have cy1:wr.cell? ⟨b',off'+k*3+1,none⟩=some (.int .i64 (nth zs (k*3+1))):=(hb.cell (by exact hbB')).trans (by have:=hc' (k*3+1) (by omega); rwa [← Nat.add_assoc] at this)
   have cx2:wr.cell? ⟨b,off+k*3+2,none⟩=some (.int .i64 (nth zs (k*3+2))):=(hb.cell (by exact hbB)).trans (by have:=hc (k*3+2) (by omega); rwa [← Nat.add_assoc] at this)
   have cy2:wr.cell? ⟨b',off'+k*3+2,none⟩=some (.int .i64 (nth zs (k*3+2))):=(hb.cell (by exact hbB')).trans (by have:=hc' (k*3+2) (by omega); rwa [← Nat.add_assoc] at this)
   generalize nth zs (k*3)=u0 at *
   generalize nth zs (k*3+1)=u1 at *
   generalize nth zs (k*3+2)=u2 at *
   have ki:(k:Int)<(n:Int):=by omega
   have k0:(0:Int)≤(k:Int):=by omega
   clear hc hc' hb;go_wp2;go_region_held3 (fun w'=>w'.cell? ⟨b,off+k*3,none⟩=some (.int .i64 u0)∧w'.cell? ⟨b,off+k*3+1,none⟩=some (.int .i64 u1)∧w'.cell? ⟨b,off+k*3+2,none⟩=some (.int .i64 u2)∧w'.cell? ⟨b',off'+k*3,none⟩=some (.int .i64 u0)∧w'.cell? ⟨b',off'+k*3+1,none⟩=some (.int .i64 u1)∧w'.cell? ⟨b',off'+k*3+2,none⟩=some (.int .i64 u2)) (first | (go_keep; done) | (refine ⟨?_,?_,?_,?_,?_,?_⟩ <;> (rw [hcc _ _ (by simp <;> omega)]; go_keep))) ((go_at_call 83; refine (eqLoad_same _ _ _ _).mono ?_; rintro e w1 ⟨rfl,hb1⟩; obtain ⟨hcc,hff⟩:=bcell hb1));have HB1:=Lib.hid (HB.out.drew.trans (hb1.mono (by have:=HB.out.size; simp; omega)))
   clear hcc hff hb1;go_wp2;go_roundw
   case rel=>exact ⟨k+1,by omega,by go_num,HB1.out⟩
   case measure=>simp [intOf]; omega
  ·have hkn:k=n:=by omega
   subst hkn;clear hb;go_wp2;go_ret;exact ⟨rfl,HB.out⟩
end X
namespace X
open Go.RowKit
theorem infoLLoadS:(Tryzx.prog.info? 46).map (fun i=>(i.zero,i.size,i.bytes))=some (some (.slice none 0 0),1,24):=by kernel_rfl
theorem toLoadS_ex (A:Option Addr) (n c:Nat) (zs:List Int) (w:World) (h:RecsAt w w.heap.size 3 A n zs) (hn:n≤1048576) :
  Calls Tryzx.prog 55 #[.slice A n c] w fun e w'=>∃ g,e = .returned (.slice (some ⟨g,0,none⟩) n n)∧w.heap.size≤g∧w'.rowIs g 77 (n*3) (ints zs)∧Below w.heap.size w w' :=
 (toLoadS_any A n c zs w h hn).mono fun _ _ ⟨he,hr,hb⟩=>⟨_,he,Nat.le_refl _,hr,hb⟩
set_option maxHeartbeats 800000 in
theorem toLoadSS_any (A:Option Addr) (n c:Nat) (L:List (Nat × List Int)) (w:World) (h:NestAt w w.heap.size 3 A n L) (hn:n≤1048576) (hr:∀ i,i<n→rowN L i≤1048576) :
  Calls Tryzx.prog 32 #[.slice A n c] w fun e w'=>∃ g,e = .returned (.slice (some ⟨g,0,none⟩) n n)∧w.heap.size≤g∧NestRow w' g 46 77 3 n L∧Below w.heap.size w w':=by
 have H:=Lib.hid h;have HR:=Lib.hid hr;clear h hr;have hmk:=run_make_row' (P:=Tryzx.prog) 29 46 (.slice none 0 0) 24 Tryzx.underlying29 infoLLoadS rfl .i64 .i64 n (by omega) (by omega);go_enter Tryzx.func32,Tryz.ntmps32;go_wp2;clear hmk;go_loopw [4] (fun i wr=>∃ k:Nat,k≤n∧i = .int .i64 k∧NestTo wr w.heap.size 46 77 3 n L k∧Below w.heap.size w wr) (fun i _=>n - (intOf i).toNat)
 case atStart=>exact ⟨0,Nat.zero_le _,rfl,NestTo.start w _ _ _ _ _,(Below.refl _ _).alloc (Nat.le_refl _) _⟩
 case round =>
  obtain ⟨k,hk,rfl,hrow,hb⟩:=hrel;by_cases hlt:k<n
  ·obtain ⟨b,off,rfl,hbB,hc⟩:=H.out.2 (by omega)
   obtain ⟨Ak,ck,hx,hrec,_,_⟩:=hc k hlt;have hx0:wr.cell? ⟨b,off+k,none⟩=some (.slice Ak (rowN L k) ck):=(hb.cell (by exact hbB)).trans hx;have hrec':=(hrec.below hb).mono hb.size;have hrk:=HR.out k hlt;have hz:=hb.size;have HRW:=Lib.hid hrow;have HB:=Lib.hid hb;clear hrow hb hc hx hrec;go_wp2_with fail
   refine (toLoadS_ex _ _ _ (rowZ L k) _ hrec' hrk).mono ?_;rintro e w1 ⟨gi,rfl,hgi,ri,hb1⟩;have hrow1:=HRW.out.after hb1;have hcy:=hrow1.cell hlt;have hfy:=hrow1.frozen k;have hlt1:w.heap.size<gi:=by have:=HRW.out; obtain ⟨f,h1,_⟩:=this; have:=h1.lt; omega
   have HS:=Lib.hid (hrow1.step hlt1 ri);have HB1:=Lib.hid ((HB.out.trans (hb1.mono hz)).setCell (p:=⟨w.heap.size,k,none⟩) (Nat.le_refl _) (.slice (some ⟨gi,0,none⟩) (rowN L k) (rowN L k)));clear hrow1 hb1 ri hrec';go_wp2;go_roundw
   case rel=>exact ⟨k+1,by omega,by go_num,HS.out,HB1.out⟩
   case measure=>simp [intOf]; omega
  ·obtain rfl:k=n:=by omega
   have HRW:=Lib.hid hrow.done;have HB:=Lib.hid hb;clear hrow hb;go_wp2;go_ret;exact ⟨_,rfl,Nat.le_refl _,HRW.out,HB.out⟩
set_option maxHeartbeats 800000 in
theorem szLoadSS_any (A:Option Addr) (n c:Nat) (L:List (Nat × List Int)) (l:Int) (w:World) (h:NestAt w w.heap.size 3 A n L) (hl0:0≤l) (hl1:l≤1048576) (hn:n≤9223372036854775807) :
  Calls Tryzx.prog 29 #[.slice A n c,.int .i64 l] w (SzPost l n L w):=by
 have H:=Lib.hid h;clear h;by_cases hnl:(n:Int)≤l
 ·have ht:¬ l - (n:Int)<0:=by omega
  go_enter Tryzx.func29,Tryz.ntmps29;go_wp2;go_loopw [1,5] (fun m i wr=>∃ (k:Nat) (r:Int),k≤n∧i = .int .i64 k∧m = .int .i64 r∧0≤r∧r+(sumN L k:Int)≤l∧Below w.heap.size w wr∧Hid (∀ i,i<k→(rowN L i:Int)≤l)) (fun _ i _=>n - (intOf i).toNat)
  case atStart=>exact ⟨0,_,Nat.zero_le _,rfl,rfl,by omega,by simp [sumN]; omega,Below.refl _ _,Lib.hid (fun i hi=>absurd hi (by omega))⟩
  case round =>
   obtain ⟨k,r,hk,rfl,rfl,hr0,hr1,hb,HA⟩:=hrel;have HB:=Lib.hid hb;by_cases hlt:k<n
   ·obtain ⟨b,off,rfl,hbB,hc⟩:=H.out.2 (by omega)
    obtain ⟨Ak,ck,hx,hrec,hcc,hcm⟩:=hc k hlt;have hx0:wr.cell? ⟨b,off+k,none⟩=some (.slice Ak (rowN L k) ck):=(hb.cell (by exact hbB)).trans hx;have hmx:rowN L k≤9223372036854775807:=by unfold maxLen at hcm; omega
    clear hc hx hrec hb;by_cases hle:(rowN L k:Int)≤r
    ·have ht2:¬ r - (rowN L k:Int)<0:=by omega
     have HA':=Lib.hid (show ∀ i,i<k+1→(rowN L i:Int)≤l from fun i hi=>by
      by_cases hik:i=k
      ·subst hik; omega
      ·exact HA.out i (by omega))
     go_wp2_with fail
     refine (calls_below (szLoadS_ok _ _ _ _ _ hr0 (by omega) hmx hle)).mono ?_;rintro e w1 ⟨rfl,hb1⟩;have HB1:=Lib.hid (HB.out.trans (hb1.mono HB.out.size));clear hb1;go_wp2;go_roundw
     case rel=>exact ⟨k+1,_,by omega,by go_num,rfl,by omega,by simp only [sumN]; omega,HB1.out,HA'⟩
     case measure=>simp [intOf]; omega
    ·go_wp2_with fail
     refine (calls_below (szLoadS_no _ _ _ _ _ hr0 (by omega) hmx (by omega))).mono ?_;rintro e w1 ⟨rfl,hb1⟩;have HB1:=Lib.hid (HB.out.trans (hb1.mono HB.out.size));clear hb1;go_wp2;go_ret;exact szPost_no HB1.out
   ·obtain rfl:k=n:=by omega
    clear hb;go_wp2;go_ret;exact szPost_ok HB.out hr0 (by omega) hnl HA.out (by omega)
 ·have ht:l - (n:Int)<0:=by omega
  go_enter Tryzx.func29,Tryz.ntmps29;go_wp2;go_ret;exact szPost_no (Below.refl _ _)
set_option maxHeartbeats 800000 in
theorem eqLoadSS_same (A A':Option Addr) (n c c':Nat) (L:List (Nat × List Int)) (w:World) (hx:NestAt w w.heap.size 3 A n L) (hy:NestAt w w.heap.size 3 A' n L) (hn:n≤1048576) (hr:∀ i,i<n→rowN L i≤1048576) :
  Calls Tryzx.prog 34 #[.slice A n c,.slice A' n c'] w fun e w'=>e = .returned (.bool true)∧Below w.heap.size w w':=by
 have HX:=Lib.hid hx;have HY:=Lib.hid hy;have HR:=Lib.hid hr;clear hx hy hr;have ht:((n:Int) != (n:Int))=false:=by simp
 go_enter Tryzx.func34,Tryz.ntmps34;go_wp2;go_loopw [5] (fun i wr=>∃ k:Nat,k≤n∧i = .int .i64 k∧Below w.heap.size w wr) (fun i _=>n - (intOf i).toNat)
 case atStart=>exact ⟨0,Nat.zero_le _,rfl,Below.refl _ _⟩
 case round =>
  obtain ⟨k,hk,rfl,hb⟩:=hrel;have HB:=Lib.hid hb;by_cases hlt:k<n
  ·obtain ⟨b,off,rfl,hbB,hc⟩:=HX.out.2 (by omega)
   obtain ⟨b',off',rfl,hbB',hc'⟩:=HY.out.2 (by omega);obtain ⟨Ak,ck,hx,hrec,_,_⟩:=hc k hlt;obtain ⟨Ak',ck',hx',hrec',_,_⟩:=hc' k hlt;have cx0:wr.cell? ⟨b,off+k,none⟩=some (.slice Ak (rowN L k) ck):=(hb.cell (by exact hbB)).trans hx;have cy0:wr.cell? ⟨b',off'+k,none⟩=some (.slice Ak' (rowN L k) ck'):=(hb.cell (by exact hbB')).trans hx';have r1:=(hrec.below hb).mono hb.size;have r2:=(hrec'.below hb).mono hb.size;have hrk:=HR.out k hlt;have hz:=hb.size;have ki:(k:Int)<(n:Int):=by omega
   have k0:(0:Int)≤(k:Int):=by omega
   clear hc hc' hb hx hx' hrec hrec';go_wp2;go_region_held3 (fun w'=>w'.cell? ⟨b,off+k,none⟩=some (.slice Ak (rowN L k) ck)∧w'.cell? ⟨b',off'+k,none⟩=some (.slice Ak' (rowN L k) ck')) (first | (go_keep; done) | (refine ⟨?_,?_⟩ <;> (rw [hcc _ _ (by simp <;> omega)]; go_keep))) ((go_at_call 57; refine (eqLoadS_same _ _ _ _ _ (rowZ L k) _ (by exact r1) (by exact r2) hrk).mono ?_; rintro e w1 ⟨rfl,hb1⟩; obtain ⟨hcc,hff⟩:=bcell hb1));have HB1:=Lib.hid (HB.out.drew.trans (hb1.mono (by have:=HB.out.size; simp; omega)))
   clear hcc hff hb1;go_wp2;go_roundw
   case rel=>exact ⟨k+1,by omega,by go_num,HB1.out⟩
   case measure=>simp [intOf]; omega
  ·obtain rfl:k=n:=by omega
   clear hb;go_wp2;go_ret;exact ⟨rfl,HB.out⟩
end X
namespace X
open Go.RowKit
def pairV (u v:Value) (j:Nat):Value:=if j=0 then u else v
theorem row_pair (w:World) (u v:Value) (t:TypeId):(w.alloc (.cells #[u,v] t)).rowIs w.heap.size t 2 (pairV u v):=World.rowIs_alloc w #[u,v] t (pairV u v) (fun i hi=>by simp at hi; match i,hi with | 0,_=>rfl | 1,_=>rfl)
set_option maxRecDepth 100000 in
set_option maxHeartbeats 800000 in
theorem toVault_any (A:Option Addr) (n c:Nat) (L:List (Nat × List Int)) (B:Option Addr) (q d:Nat) (M:List (Nat × List Int)) (w:World) (h:NestAt w w.heap.size 4 A n L) (hn:n≤1048576) (hr:∀ i,i<n→rowN L i≤1048576) (hl:NestAt w w.heap.size 3 B q M) (hq:q≤1048576) (hs:∀ i,i<q→rowN M i≤1048576) :
  Calls Tryzx.prog 9 #[.agg #[.slice A n c,.slice B q d]] w fun e w'=>∃ g g',e = .returned (.agg #[.slice (some ⟨g,0,none⟩) n n,.slice (some ⟨g',0,none⟩) q q])∧w.heap.size≤g∧w.heap.size≤g'∧NestRow w' g 45 110 4 n L∧NestRow w' g' 46 77 3 q M∧Below w.heap.size w w':=by
 have HR:=Lib.hid hr;have HS:=Lib.hid hs;obtain ⟨W3,hW⟩:∃ W3:World,W3=(((w.alloc (.cells #[.slice A n c,.slice B q d] 25)).alloc (.cells #[.slice none 0 0,.slice none 0 0] 31)).alloc (.cells #[.slice none 0 0,.slice none 0 0] 31)):=⟨_,rfl⟩;have hsz:W3.heap.size=w.heap.size+1+1+1:=by rw [hW]; simp
 have b3:Below w.heap.size w W3:=by rw [hW]; exact (((Below.refl _ w).alloc (Nat.le_refl _) _).alloc (by simp) _).alloc (by simp; omega) _
 have h3:=h.after b3;have l3:=hl.after b3;have ra:RowF W3 w.heap.size 25 2 (pairV (.slice A n c) (.slice B q d)):=by rw [hW]; exact ((RowF.of_row (row_pair w _ _ _)).alloc _).alloc _
 have rr:RowF W3 (w.heap.size+1) 31 2 (pairV (.slice none 0 0) (.slice none 0 0)):=by
  rw [hW];have h:=(RowF.of_row (row_pair (w.alloc (.cells #[.slice A n c,.slice B q d] 25)) (.slice none 0 0) (.slice none 0 0) 31)).alloc (.cells #[.slice none 0 0,.slice none 0 0] 31);simpa using h
 have ro:RowF W3 (w.heap.size+1+1) 31 2 (pairV (.slice none 0 0) (.slice none 0 0)):=by
  rw [hW];have h:=RowF.of_row (row_pair ((w.alloc (.cells #[.slice A n c,.slice B q d] 25)).alloc (.cells #[.slice none 0 0,.slice none 0 0] 31)) (.slice none 0 0) (.slice none 0 0) 31);simpa using h
 have HL:=Lib.hid hl;clear h hl hr hs;have HZ:=Lib.hid hsz;go_enter Tryzx.func9,Tryz.ntmps9;go_wp2_with fail
 rw [← hW];clear hW;refine (toArchS_any A n c L _ h3 hn HR.out).mono ?_;rintro e w1 ⟨g,rfl,hg,r1,hb1⟩;have hg3:w.heap.size+1+1+1≤g:=by omega
 have b1:=below_then b3 hb1;have l1:=l3.after hb1;have ra1:=ra.after hb1;have rr1:=rr.after hb1;have ro1:=ro.after hb1;have z1:=hb1.size;have o0:w1.cell? ⟨w.heap.size+1+1,0,none⟩=some (.slice none 0 0):=ro1.cell (by omega);have f0:=ro1.frozen 0;have a1:w1.cell? ⟨w.heap.size,1,none⟩=some (.slice B q d):=ra1.cell (by omega);have b1':=b1.setCell (p:=⟨w.heap.size+1+1,0,none⟩) (by simp; omega) (.slice (some ⟨g,0,none⟩) n n)
 have l1':=(HL.out.below b1').mono b1'.size;have r1':=r1.set_lt (p:=⟨w.heap.size+1+1,0,none⟩) (by simp; omega) (.slice (some ⟨g,0,none⟩) n n)
 have ro1':=ro1.set 0 (.slice (some ⟨g,0,none⟩) n n);have rr1':=rr1.set_other (p:=⟨w.heap.size+1+1,0,none⟩) (by simp) (.slice (some ⟨g,0,none⟩) n n);have HB1:=Lib.hid b1';clear b1 b1' l1 l3 h3 b3 ra rr ro ra1 rr1 hb1 r1 HZ;go_wp2_with fail
 refine (toLoadSS_any B q d M _ l1' hq HS.out).mono ?_;rintro e w2 ⟨g',rfl,hg',r2,hb2⟩;have z2:=hb2.size;have zs:(w1.setCell ⟨w.heap.size+1+1,0,none⟩ (.slice (some ⟨g,0,none⟩) n n)).heap.size=w1.heap.size:=by simp [World.setCell]
 have s2:=r1'.after hb2;have ro2:=ro1'.after hb2;have rr2:=rr1'.after hb2;have HB2:=Lib.hid (HB1.out.trans (hb2.mono HB1.out.size));rw [zs] at hg' z2;clear zs;have o0':w2.cell? ⟨w.heap.size+1+1,0,none⟩=some (.slice (some ⟨g,0,none⟩) n n):=ro2.cell (by omega);have o1':w2.cell? ⟨w.heap.size+1+1,1,none⟩=some (.slice none 0 0):=ro2.cell (by omega);have f1':=ro2.frozen 1;have r0':w2.cell? ⟨w.heap.size+1,0,none⟩=some (.slice none 0 0):=rr2.cell (by omega);have r1'':w2.cell? ⟨w.heap.size+1,1,none⟩=some (.slice none 0 0):=rr2.cell (by omega);have k0:=rr2.frozen 0;have k1:=rr2.frozen 1;have HS2:=Lib.hid s2;have HR2:=Lib.hid r2;clear s2 r2 ro2 rr2 hb2 ro1' rr1' r1' l1' o0 f0 ro1 HB1;go_wp2;refine bodyPost_ret (v := .agg #[.slice (some ⟨g,0,none⟩) n n,.slice (some ⟨g',0,none⟩) q q]) (by simp [results,Tryz.results9,go_sem, *]) rfl ⟨g,g',rfl,by omega,by omega,?_,?_,?_⟩
 ·exact ((HS2.out.set_lt (by simp; omega) _).set_lt (by simp; omega) _).set_lt (by simp; omega) _
 ·exact ((HR2.out.set_lt (by simp; omega) _).set_lt (by simp; omega) _).set_lt (by simp; omega) _
 ·exact ((HB2.out.setCell (p:=⟨w.heap.size+1+1,1,none⟩) (by simp; omega) _).setCell (p:=⟨w.heap.size+1,0,none⟩) (by simp) _).setCell (p:=⟨w.heap.size+1,1,none⟩) (by simp) _
def SzVPost (l:Int) (n:Nat) (L:List (Nat × List Int)) (q:Nat) (M:List (Nat × List Int)) (w:World) (e:Ending) (w':World):Prop :=
 ∃ r:Int,e = .returned (.int .i64 r)∧Below w.heap.size w w'∧(r = -1 ∨ (0≤r∧r≤l∧((n:Int)≤l∧(∀ i,i<n→(rowN L i:Int)≤l)∧(sumN L n:Int)≤l)∧((q:Int)≤l∧(∀ i,i<q→(rowN M i:Int)≤l)∧(sumN M q:Int)≤l)))
theorem szVPost_no {l:Int} {n:Nat} {L:List (Nat × List Int)} {q:Nat} {M:List (Nat × List Int)} {w w':World} (hb:Below w.heap.size w w'):SzVPost l n L q M w (.returned (.int .i64 (-1))) w':=⟨-1,rfl,hb,.inl rfl⟩
theorem szVault_any (A:Option Addr) (n c:Nat) (L:List (Nat × List Int)) (B:Option Addr) (q d:Nat) (M:List (Nat × List Int)) (l:Int) (w:World) (h:NestAt w w.heap.size 4 A n L) (hl:NestAt w w.heap.size 3 B q M) (hl0:0≤l) (hl1:l≤1048576) (hn:n≤9223372036854775807) (hq:q≤9223372036854775807) :
  Calls Tryzx.prog 7 #[.agg #[.slice A n c,.slice B q d],.int .i64 l] w (SzVPost l n L q M w):=by
 have b0:Below w.heap.size w (w.alloc (.cells #[.slice A n c,.slice B q d] 25)):=(Below.refl _ _).alloc (Nat.le_refl _) _;have h0:=h.after b0;have l0:=hl.after b0;have ra:RowF (w.alloc (.cells #[.slice A n c,.slice B q d] 25)) w.heap.size 25 2 (pairV (.slice A n c) (.slice B q d)):=RowF.of_row (row_pair w _ _ _);clear h hl;go_enter Tryzx.func7,Tryz.ntmps7;go_wp2_with fail
 refine (szArchS_any A n c L _ _ h0 hl0 hl1 hn).mono ?_;rintro e w1 ⟨r,rfl,hb1,hr⟩;have b1:=below_then b0 hb1;rcases hr with rfl | ⟨hr0,hr1,hr2,hr3,hr4⟩
 ·go_wp2
  go_ret;exact szVPost_no b1
 have ra1:=ra.after hb1;have a1:w1.cell? ⟨w.heap.size,1,none⟩=some (.slice B q d):=ra1.cell (by omega);have l1:=l0.after hb1;have ht:¬ r<0:=by omega
 have HR3:=Lib.hid hr3;clear hr3 b0 h0 l0 ra hb1 ra1;go_wp2_with fail
 refine (szLoadSS_any B q d M _ _ l1 hr0 (by omega) hq).mono ?_;rintro e w2 ⟨r',rfl,hb2,hr'⟩;have b2:=below_then b1 hb2;rcases hr' with rfl | ⟨hs0,hs1,hs2,hs3,hs4⟩
 ·go_wp2
  go_ret;exact szVPost_no b2
 have ht':¬ r'<0:=by omega
 have HS3:=Lib.hid hs3;clear hs3;go_wp2;go_ret;exact ⟨r',rfl,b2,.inr ⟨hs0,by omega,⟨hr2,HR3.out,hr4⟩,by omega,fun i hi=>by have:=HS3.out i hi; omega,by omega⟩⟩
theorem eqVault_same (A A':Option Addr) (n c c':Nat) (L:List (Nat × List Int)) (B B':Option Addr) (q d d':Nat) (M:List (Nat × List Int)) (w:World) (h:NestAt w w.heap.size 4 A n L) (h':NestAt w w.heap.size 4 A' n L) (hn:n≤1048576) (hr:∀ i,i<n→rowN L i≤1048576) (hl:NestAt w w.heap.size 3 B q M) (hl':NestAt w w.heap.size 3 B' q M) (hq:q≤1048576) (hs:∀ i,i<q→rowN M i≤1048576) :
  Calls Tryzx.prog 11 #[.agg #[.slice A n c,.slice B q d],.agg #[.slice A' n c',.slice B' q d']] w fun e w'=>e = .returned (.bool true)∧Below w.heap.size w w':=by
 obtain ⟨W2,hW⟩:∃ W2:World,W2=((w.alloc (.cells #[.slice A n c,.slice B q d] 31)).alloc (.cells #[.slice A' n c',.slice B' q d'] 31)):=⟨_,rfl⟩;have hsz:W2.heap.size=w.heap.size+1+1:=by rw [hW]; simp
 have b2:Below w.heap.size w W2:=by rw [hW]; exact ((Below.refl _ w).alloc (Nat.le_refl _) _).alloc (by simp) _
 have g1:=h.after b2;have g2:=h'.after b2;have g3:=hl.after b2;have g4:=hl'.after b2;have ra:RowF W2 w.heap.size 31 2 (pairV (.slice A n c) (.slice B q d)):=by rw [hW]; exact (RowF.of_row (row_pair w _ _ _)).alloc _
 have rb:RowF W2 (w.heap.size+1) 31 2 (pairV (.slice A' n c') (.slice B' q d')):=by
  rw [hW];have h:=RowF.of_row (row_pair (w.alloc (.cells #[.slice A n c,.slice B q d] 31)) (.slice A' n c') (.slice B' q d') 31);simpa using h
 have HR:=Lib.hid hr;have HS:=Lib.hid hs;clear h h' hl hl' hr hs hsz;go_enter Tryzx.func11,Tryz.ntmps11;go_wp2_with fail
 rw [← hW];clear hW;refine (eqArchS_same _ _ _ _ _ L _ g1 g2 hn HR.out).mono ?_;rintro e w1 ⟨rfl,hb1⟩;have b1:=below_then b2 hb1;have ra1:=ra.after hb1;have rb1:=rb.after hb1;have a1:w1.cell? ⟨w.heap.size,1,none⟩=some (.slice B q d):=ra1.cell (by omega);have a2:w1.cell? ⟨w.heap.size+1,1,none⟩=some (.slice B' q d'):=rb1.cell (by omega);have k3:=g3.after hb1;have k4:=g4.after hb1;clear b2 g1 g2 g3 g4 ra rb hb1 ra1 rb1;go_wp2_with fail
 refine (eqLoadSS_same _ _ _ _ _ M _ k3 k4 hq HS.out).mono ?_;rintro e w3 ⟨rfl,hb3⟩;have b3:=below_then b1 hb3;go_wp2;go_ret;exact ⟨rfl,b3⟩
end X
namespace X
open Go.RowKit
set_option maxRecDepth 100000 in
set_option maxHeartbeats 1600000 in
theorem fnExactVaultStands.walk (A0:Option Addr) (n0 c0:Nat) (L0:List (Nat × List Int)) (hm0:n0≤maxLen) (B0:Option Addr) (p0 d0:Nat) (M0:List (Nat × List Int)) (hk0:p0≤maxLen) (w:World) (a0_:NestAt w w.heap.size 4 A0 n0 L0) (f0_:NestAt w w.heap.size 3 B0 p0 M0) :
  Calls Tryzx.prog 3 #[.agg #[.slice A0 n0 c0,.slice B0 p0 d0]] w fun e w'=>e = .returned (.bool true)∧Below w.heap.size w w':=by
 have hm0':n0≤9223372036854775807:=by unfold maxLen at hm0; omega
 have hk0':p0≤9223372036854775807:=by unfold maxLen at hk0; omega
 have b_0:Below w.heap.size w w:=Below.refl _ _;have a0_0:=a0_;have f0_0:=f0_;have hb_1:Below w.heap.size w (w.alloc (.cells #[.slice A0 n0 c0,.slice B0 p0 d0] 25)):=(Below.refl _ _).alloc (Nat.le_refl _) _;have b_1:=below_then b_0 hb_1;clear b_0;have a0_1:=a0_0.after hb_1;clear a0_0;have f0_1:=f0_0.after hb_1;clear f0_0;clear hb_1;have bx0_1:Box2 (w.alloc (.cells #[.slice A0 n0 c0,.slice B0 p0 d0] 25)) w.heap.size (.slice A0 n0 c0) (.slice B0 p0 d0):=Box2.new _ _ _ _;go_enter Tryzx.func3,Tryz.ntmps3;go_wp2_with fail
 refine (szVault_any A0 n0 c0 L0 B0 p0 d0 M0 _ _ a0_1 f0_1 (by omega) (by omega) hm0' hk0').mono ?_;rintro e w2 ⟨r2,rfl,hb_2,hr2⟩;have b_2:=below_then b_1 hb_2;clear b_1;have a0_2:=a0_1.after hb_2;clear a0_1;have f0_2:=f0_1.after hb_2;clear f0_1;have bx0_2:=bx0_1.after hb_2;clear bx0_1;have cbx0_2:=bx0_2.1;have ebx0_2:=bx0_2.2.1;clear hb_2;rcases hr2 with rfl | hr2
 ·go_wp2
  go_ret;exact ⟨rfl,b_2⟩
 obtain ⟨hr2a,hr2b,⟨hr2c,hr2d,hr2e⟩,hr2f,hr2g,hr2h⟩:=hr2;have HN0:=Lib.hid (show ∀ i,i<n0→rowN L0 i≤1048576 from fun i hi=>by have:=hr2d i hi; omega)
 have HM0:=Lib.hid (show ∀ i,i<p0→rowN M0 i≤1048576 from fun i hi=>by have:=hr2g i hi; omega)
 have hS0:sumN L0 n0≤1048576:=by omega
 have hT0:sumN M0 p0≤1048576:=by omega
 have hp0:p0≤1048576:=by omega
 clear hr2d hr2g;have hn0:n0≤1048576:=by omega
 have ht0:¬ r2<0:=by omega
 go_wp2_with fail
 refine (toVault_any A0 n0 c0 L0 B0 p0 d0 M0 _ a0_2 hn0 HN0.out f0_2 hp0 HM0.out).mono ?_;rintro e w3 ⟨g3,j3,rfl,_,_,r_3,q_3,hb_3⟩;have b_3:=below_then b_2 hb_3;clear b_2;have a0_3:=a0_2.after hb_3;clear a0_2;have f0_3:=f0_2.after hb_3;clear f0_2;have bx0_3:=bx0_2.after hb_3;clear bx0_2;have cbx0_3:=bx0_3.1;have ebx0_3:=bx0_3.2.1;clear cbx0_2;clear ebx0_2;have s0_3:=r_3.nestAt a0_.1 a0_.lens HN0.out;have us0_3:=q_3.nestAt f0_.1 f0_.lens HM0.out;clear r_3 q_3 hb_3;go_wp2_with fail
 refine (sVs_any _ _ _ L0 _ _ _ M0 _ s0_3 hn0 HN0.out us0_3 hp0 HM0.out).mono ?_;rintro e w4 ⟨rfl,hb_4⟩;have b_4:=below_then b_3 hb_4;clear b_3;have a0_4:=a0_3.after hb_4;clear a0_3;have f0_4:=f0_3.after hb_4;clear f0_3;have bx0_4:=bx0_3.after hb_4;clear bx0_3;have s0_4:=s0_3.after hb_4;clear s0_3;have us0_4:=us0_3.after hb_4;clear us0_3;have cbx0_4:=bx0_4.1;have ebx0_4:=bx0_4.2.1;clear cbx0_3;clear ebx0_3;clear hb_4;clear s0_4;clear us0_4;go_wp2_with fail
 refine (toVault_any A0 n0 c0 L0 B0 p0 d0 M0 _ a0_4 hn0 HN0.out f0_4 hp0 HM0.out).mono ?_;rintro e w5 ⟨g5,j5,rfl,_,_,r_5,q_5,hb_5⟩;have b_5:=below_then b_4 hb_5;clear b_4;have a0_5:=a0_4.after hb_5;clear a0_4;have f0_5:=f0_4.after hb_5;clear f0_4;have bx0_5:=bx0_4.after hb_5;clear bx0_4;have cbx0_5:=bx0_5.1;have ebx0_5:=bx0_5.2.1;clear cbx0_4;clear ebx0_4;have s0_5:=r_5.nestAt a0_.1 a0_.lens HN0.out;have us0_5:=q_5.nestAt f0_.1 f0_.lens HM0.out;clear r_5 q_5 hb_5;have hb_6:Below w5.heap.size w5 (w5.alloc (.cells #[.slice (some ⟨g5,0,none⟩) n0 n0,.slice (some ⟨j5,0,none⟩) p0 p0] 31)):=(Below.refl _ _).alloc (Nat.le_refl _) _;have b_6:=below_then b_5 hb_6;clear b_5;have a0_6:=a0_5.after hb_6;clear a0_5;have f0_6:=f0_5.after hb_6;clear f0_5;have bx0_6:=bx0_5.after hb_6;clear bx0_5;have s0_6:=s0_5.after hb_6;clear s0_5;have us0_6:=us0_5.after hb_6;clear us0_5;have cbx0_6:=bx0_6.1;have ebx0_6:=bx0_6.2.1;clear cbx0_5;clear ebx0_5;clear hb_6;have by0_6:Box2 (w5.alloc (.cells #[.slice (some ⟨g5,0,none⟩) n0 n0,.slice (some ⟨j5,0,none⟩) p0 p0] 31)) w5.heap.size (.slice (some ⟨g5,0,none⟩) n0 n0) (.slice (some ⟨j5,0,none⟩) p0 p0):=Box2.new _ _ _ _;have cby0_6:=by0_6.1;have eby0_6:=by0_6.2.1;go_wp2_with fail
 refine (iVs_any _ _ _ L0 _ _ _ M0 _ s0_6 hn0 HN0.out us0_6 hp0 HM0.out).mono ?_;rintro e w7 ⟨rfl,hb_7⟩;have b_7:=below_then b_6 hb_7;clear b_6;have a0_7:=a0_6.after hb_7;clear a0_6;have f0_7:=f0_6.after hb_7;clear f0_6;have bx0_7:=bx0_6.after hb_7;clear bx0_6;have s0_7:=s0_6.after hb_7;clear s0_6;have us0_7:=us0_6.after hb_7;clear us0_6;have by0_7:=by0_6.after hb_7;clear by0_6;have cbx0_7:=bx0_7.1;have ebx0_7:=bx0_7.2.1;clear cbx0_6;clear ebx0_6;have cby0_7:=by0_7.1;have eby0_7:=by0_7.2.1;clear cby0_6;clear eby0_6;clear hb_7;go_wp2_with fail
 go_region_held3 (fun w'=>(w'.cell? ⟨w5.heap.size,0,none⟩=some (.slice (some ⟨g5,0,none⟩) n0 n0)∧w'.cell? ⟨w5.heap.size,1,none⟩=some (.slice (some ⟨j5,0,none⟩) p0 p0))∧w'.cell? ⟨w.heap.size,0,none⟩=some (.slice A0 n0 c0)∧w'.cell? ⟨w.heap.size,1,none⟩=some (.slice B0 p0 d0)) (first | exact ⟨⟨cby0_7,eby0_7⟩,cbx0_7,ebx0_7⟩ | exact ⟨⟨dy.1,dy.2.1⟩,dx.1,dx.2.1⟩ | exact ⟨⟨ey.1,ey.2.1⟩,ex.1,ex.2.1⟩) ((first | (go_at_call 9; refine (toVault_any A0 n0 c0 L0 B0 p0 d0 M0 _ (by exact a0_7) hn0 HN0.out (by exact f0_7) hp0 HM0.out).mono ?_; rintro e w8 ⟨g8,j8,rfl,_,_,r_8,q_8,hbx⟩; have hb_8:=below_undrew hbx; have e1:=s0_7.after hb_8; have e2:=us0_7.after hb_8; have v1:=r_8.nestAt a0_.1 a0_.lens HN0.out; have v2:=q_8.nestAt f0_.1 f0_.lens HM0.out; have dy:=by0_7.after hb_8; have dx:=bx0_7.after hb_8) | (go_at_call 11; refine (eqVault_same _ _ _ _ _ L0 _ _ _ _ _ M0 _ (by exact e1) (by exact v1) hn0 HN0.out (by exact e2) (by exact v2) hp0 HM0.out).mono ?_; rintro e w9 ⟨rfl,hb_9⟩; have ey:=dy.after hb_9; have ex:=dx.after hb_9)));have b_8:=below_then b_7 hb_8;clear b_7;have a0_8:=a0_7.after hb_8;clear a0_7;have f0_8:=f0_7.after hb_8;clear f0_7;have bx0_8:=bx0_7.after hb_8;clear bx0_7;have s0_8:=s0_7.after hb_8;clear s0_7;have us0_8:=us0_7.after hb_8;clear us0_7;have by0_8:=by0_7.after hb_8;clear by0_7;have cbx0_8:=bx0_8.1;have ebx0_8:=bx0_8.2.1;clear cbx0_7;clear ebx0_7;have cby0_8:=by0_8.1;have eby0_8:=by0_8.2.1;clear cby0_7;clear eby0_7;have b_9:=below_then b_8 hb_9;clear b_8;have a0_9:=a0_8.after hb_9;clear a0_8;have f0_9:=f0_8.after hb_9;clear f0_8;have bx0_9:=bx0_8.after hb_9;clear bx0_8;have s0_9:=s0_8.after hb_9;clear s0_8;have us0_9:=us0_8.after hb_9;clear us0_8;have by0_9:=by0_8.after hb_9;clear by0_8;have cbx0_9:=bx0_9.1;have ebx0_9:=bx0_9.2.1;clear cbx0_8;clear ebx0_8;have cby0_9:=by0_9.1;have eby0_9:=by0_9.2.1;clear cby0_8;clear eby0_8;clear hb_8 hb_9;go_wp2;go_ret;exact ⟨rfl,b_9⟩
end X
end Go.Proofs.YtjcgklifabcfkaaGreat
