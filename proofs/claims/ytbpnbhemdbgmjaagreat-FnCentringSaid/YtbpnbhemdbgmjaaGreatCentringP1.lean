/-
  Texts that the law stands on, part 1.
-/
import Derived.Test.YtbpnbhemdbgmjaaGreatC1
import Derived.Test.YtbpnbhemdbgmjaaGreatC11
import Derived.Test.YtbpnbhemdbgmjaaGreatC13
import Derived.Test.YtbpnbhemdbgmjaaGreatC17
import Derived.Test.YtbpnbhemdbgmjaaGreatC19
import Derived.Test.YtbpnbhemdbgmjaaGreatC22
import Derived.Test.YtbpnbhemdbgmjaaGreatC23
import Derived.Test.YtbpnbhemdbgmjaaGreatC24
import Derived.Deep.Draws
import Derived.OwnWalk
import Derived.ArgAppend
import Derived.Deep.RegionLaw
import Derived.Test.YtbpnbhemdbgmjaaGreatProg
import Derived.KernelRfl
import Derived.IntWalk
import Derived.WalkKit
import Derived.Outline
import Derived.Deep.QuietTactic
import Derived.BigQuiet
import Derived.Laws.BitsAllLaws
import Derived.Laws.BitsLemmas
import Derived.BigRegion
import Derived.Deep.DeepCutAuto
set_option maxRecDepth 100000
set_option linter.unusedVariables false
set_option linter.unusedSimpArgs false
namespace Go.Proofs.YtbpnbhemdbgmjaaGreat
section
open Go.RowKit
section
variable {w w' : World} {base : Nat} {E : TypeId} {g cap : Nat} {v : Value} {xs : List Int}
theorem OwnI.toV (h:OwnI w base E g cap xs):OwnV w base E (.slice (some ⟨g,0,none⟩) xs.length cap) xs:=h
theorem OwnI.intsAt (h:OwnI w base E g cap xs):IntsAt w w.heap.size (some ⟨g,0,none⟩) xs.length xs :=
 ⟨rfl,fun _=>⟨g,0,rfl,h.blk.2,fun k hk=>by rw [Nat.zero_add]; exact h.cell hk⟩⟩
theorem OwnV.intsAt {A:Option Addr} {n c:Nat} (h:OwnV w base E (.slice A n c) xs):IntsAt w w.heap.size A n xs:=by
 rcases h.2 with ⟨h1,h2⟩ | ⟨g,cap,cur,h1,hr⟩
 ·simp at h1
  obtain ⟨rfl,rfl,rfl⟩:=h1;have:xs = []:=List.eq_nil_of_length_eq_zero h2;subst this;exact IntsAt.nil
 ·simp at h1
  obtain ⟨rfl,rfl,rfl⟩:=h1;exact OwnI.intsAt h
end
theorem wpList_append_int {P:Program} (w:World) {ops:Array Oper} {rest:List Oper} {o:Oper} {a:Act} {Q:Exit→Act→World→Prop} (hgd:o.guard=none) (s x:Operand) (t:TypeId)
  (ho:o.op = .call { callee := .builtin .append,args := #[s,x],argTypes := #[t,t] })
  (base:Nat) (E:TypeId) (ht:P.underlying t=some (.slice E)) (hinfo:(P.info? E).map (fun i=>(i.zero,i.size,i.bytes))=some (some (.int .i64 0),1,8))
  (v:Value) (xs:List Int) (hs:a.eval s=v) (hown:OwnV w base E v xs) (g c:Nat) (z:Int) (hx:a.eval x = .slice (some ⟨g,0,none⟩) 1 c)
  (hg:w.cell? ⟨g,0,none⟩=some (.int .i64 z)) (hlen:xs.length≤1099511627776) (hbase:base≤w.heap.size)
  (h:∀ g' cap' w',OwnI w' base E g' cap' (xs ++ [z])→w.grownBy w' v.ownBlock→wpList P ops Q rest (a.put o.dst (.slice (some ⟨g',0,none⟩) (xs.length+1) cap')) w'):wpList P ops Q (o :: rest) a w:=by
 obtain ⟨i0,hi0,hz0,hz1,hz2⟩:=info_parts hinfo;refine wpList_append_own (P:=P) w hgd s x t ho base E i0 (.int .i64 0) 1 8 ht hi0 hz0 hz1 hz2 rfl (by decide) v xs.length _ hs hown ⟨g,0,none⟩ 1 c [.int .i64 z] hx rfl ?_ ?_ (by unfold maxLen; omega) (by omega) hbase ?_
 ·intro j u hj
  match j,hj with
  | 0,hj=>simp at hj; subst hj; simpa [Addr.add] using hg
 ·intro u hu; simp at hu; subst hu; rfl
 ·intro v' w' hown' hgr _
  have h':OwnV w' base E v' (xs ++ [z]):=by
   unfold OwnV;rw [List.length_append,List.map_append];exact hown'
  rcases h'.form with ⟨_,h2⟩ | ⟨g',cap',rfl,hi⟩
  ·simp at h2
  ·have e:(xs ++ [z]).length=xs.length+1:=by simp
   rw [e] at *
   exact h g' cap' w' hi hgr
end
section
open Go.RowKit
section
variable {w w' : World} {base : Nat} {E : TypeId} {K n : Nat} {v : Value} {xs : List Int}
theorem OwnR.drewN (h:OwnR w base E K v n xs) (k:Nat):OwnR (w.drewN k) base E K v n xs:=h
end
theorem OwnR.typeOf {w:World} {base:Nat} {E:TypeId} {K n:Nat} {v:Value} {xs:List Int} (h:OwnR w base E K v n xs) (g:Nat) (hg:v.ownBlock=some g) {T:TypeId} {m:Nat} {f:Nat→Value} (hr:RowF w g T m f):T=E:=by
 rcases h.form with ⟨rfl,_⟩ | ⟨g',cap,rfl,_,_,hr'⟩
 ·simp [Value.ownBlock] at hg
 ·simp [Value.ownBlock] at hg
  subst hg;obtain ⟨c,hb,_⟩:=hr;obtain ⟨c',hb',_⟩:=hr';rw [hb] at hb';simp at hb';exact hb'.2
theorem OwnR.blockLt {w:World} {base:Nat} {E:TypeId} {K n:Nat} {v:Value} {xs:List Int} (h:OwnR w base E K v n xs):∀ k,v.ownBlock=some k→k<w.heap.size:=fun k hk=>(World.ownsRow.lt h.1 k hk).2
theorem OwnR.other {w w':World} {base:Nat} {E:TypeId} {K n:Nat} {u:Value} {xs:List Int} {row:Option Nat} (h:OwnR w base E K u n xs) (hg:w.grownBy w' row) (hne:∀ k,u.ownBlock=some k→row ≠ some k):OwnR w' base E K u n xs:=by
 refine ⟨⟨h.1.1,?_⟩,h.2⟩;rcases h.1.2 with h2 | ⟨g,cap,cur,h1,h2,h3,hr⟩
 ·exact .inl h2
 ·obtain ⟨_,_,_,_,hgg⟩:=hg
  refine .inr ⟨g,cap,cur,h1,h2,(hgg g (Array.getElem?_eq_some_iff.1 h3).1 (fun e=>hne g (by rw [h1]; rfl) e.symm)).trans h3,hr⟩
end
section
open Go.RowKit
theorem step_appRT {P:Program} {ops:Array Oper} {o:Oper} {a:Act} {w:World} {K:Act→World→Prop} {Q:Exit→Act→World→Prop} {F:Prop} (hgd:o.guard=none) (s x:Operand) (t:TypeId)
  (ho:o.op = .call { callee := .builtin .append,args := #[s,x],argTypes := #[t,t] })
  (base:Nat) (E:TypeId) (Kr bytes:Nat) (zc:Array Value) (ht:P.underlying t=some (.slice E)) (hinfo:(P.info? E).map (fun i=>(i.zero,i.size,i.bytes))=some (some (.agg zc),Kr,bytes)) (hzc:zc.size=Kr) (hK:0<Kr) (hby:bytes≤1024)
  (v:Value) (n:Nat) (xs:List Int) (hs:a.eval s=v) (hown:OwnR w base E Kr v n xs) (g m c:Nat) (ys:List Int) (hx:a.eval x = .slice (some ⟨g,0,none⟩) m c) (hy:ys.length=m*Kr)
  (hg:∀ i,i<m*Kr→w.cell? ⟨g,i,none⟩=some (.int .i64 (nth ys i))) (hn:n+m≤1048576) (B:Nat) (w0:World) (hb:Below B w0 w) (hB:B≤base) (hbase:base≤w.heap.size) (xs':List Int) (hxs:xs ++ ys=xs') (hm:1≤m)
  (h:∀ g' cap' w',OwnR w' base E Kr (.slice (some ⟨g',0,none⟩) (n+m) cap') (n+m) xs'→Below B w0 w'→(∀ g2 T m2 f,T ≠ E→RowF w g2 T m2 f→RowF w' g2 T m2 f)→K (a.put o.dst (.slice (some ⟨g',0,none⟩) (n+m) cap')) w'):if Region.wanted o (yielded ops a.tmps)=true then Oper.wp P o a w K Q else F:=by
 have hw:Region.wanted o (yielded ops a.tmps)=true:=by simp [Region.wanted,hgd]
 rw [if_pos hw];subst hxs;obtain ⟨i0,hi0,hz0,hz1,hz2⟩:=info_parts hinfo;have hbb:(n+m)*bytes≤1048576*1024:=Nat.mul_le_mul hn hby;refine wp_append_own (P:=P) w s x t ho base E i0 (.agg zc) Kr bytes ht hi0 hz0 hz1 hz2 (by simpa [Value.cells] using hzc) hK v n _ hs hown.1 ⟨g,0,none⟩ m c (ys.map (Value.int .i64)) hx (by simpa using hy) ?_ ?_ (by unfold maxLen; omega) (by omega) hbase ?_
 ·intro j u hj
  have hjl:j<ys.length:=by
   have:=(List.getElem?_eq_some_iff.1 hj).1;simpa using this
  rw [List.getElem?_map,List.getElem?_eq_getElem hjl] at hj;simp at hj;subst hj;rw [Go.WideShapes.add_plain,Nat.zero_add,hg j (by rw [← hy]; exact hjl),nth_get ys j hjl]
 ·intro u hu
  obtain ⟨z,_,rfl⟩:=List.mem_map.1 hu;rfl
 ·intro v' w' hown' hgr _
  have h':OwnR w' base E Kr v' (n+m) (xs ++ ys):=⟨by rw [List.map_append]; exact hown',by rw [List.length_append,hown.2,hy,Nat.add_mul]⟩;rcases h'.form with ⟨_,h2,_⟩ | ⟨g',cap',rfl,_⟩
  ·omega
  ·exact h g' cap' w' h' (hb.grown hgr (by omega) (fun k hk=>by have:=hown.ownLt k hk; omega)) (fun g2 T m2 f hT hr=>hr.of_block (grown_block hgr g2 hr.lt (fun e=>hT (hown.typeOf g2 e.symm hr))))
end
end Go.Proofs.YtbpnbhemdbgmjaaGreat
section
namespace Go.Proofs.Tryzx
theorem func8:prog.funcs[8]?=some Tryz.f8:=by kernel_rfl
theorem func15:prog.funcs[15]?=some Tryz.f15:=by kernel_rfl
theorem func36:prog.funcs[36]?=some Tryz.f36:=by kernel_rfl
theorem func39:prog.funcs[39]?=some Tryz.f39:=by kernel_rfl
theorem func40:prog.funcs[40]?=some Tryz.f40:=by kernel_rfl
theorem func42:prog.funcs[42]?=some Tryz.f42:=by kernel_rfl
theorem func44:prog.funcs[44]?=some Tryz.f44:=by kernel_rfl
theorem func45:prog.funcs[45]?=some Tryz.f45:=by kernel_rfl
theorem func64:prog.funcs[64]?=some Tryz.f64:=by kernel_rfl
theorem func85:prog.funcs[85]?=some Tryz.f85:=by kernel_rfl
theorem func86:prog.funcs[86]?=some Tryz.f86:=by kernel_rfl
theorem func88:prog.funcs[88]?=some Tryz.f88:=by kernel_rfl
theorem func92:prog.funcs[92]?=some Tryz.f92:=by kernel_rfl
theorem func93:prog.funcs[93]?=some Tryz.f93:=by kernel_rfl
theorem func96:prog.funcs[96]?=some Tryz.f96:=by kernel_rfl
theorem func109:prog.funcs[109]?=some Tryz.f109:=by kernel_rfl
theorem func111:prog.funcs[111]?=some Tryz.f111:=by kernel_rfl
theorem func133:prog.funcs[133]?=some Tryz.f133:=by kernel_rfl
theorem func140:prog.funcs[140]?=some Tryz.f140:=by kernel_rfl
theorem func141:prog.funcs[141]?=some Tryz.f141:=by kernel_rfl
theorem func175:prog.funcs[175]?=some Tryz.f175:=by kernel_rfl
@[simp] theorem stoodInHeld65:prog.stoodInHeld 65=false:=by kernel_rfl
theorem underlying5:prog.underlying 5=some (Go.TypeDesc.int Go.IntKind.u8):=(underlying_x 5).trans Tryz.underlying5
theorem underlying22:prog.underlying 22=some (Go.TypeDesc.slice 5):=(underlying_x 22).trans Tryz.underlying22
@[simp] theorem call8 (args w):Sem.run prog (callFunc 8 args) w = .ok (.enter 8 args) w:=call_x 8 args w func8
@[simp] theorem call15 (args w):Sem.run prog (callFunc 15 args) w = .ok (.enter 15 args) w:=call_x 15 args w func15
@[simp] theorem call36 (args w):Sem.run prog (callFunc 36 args) w = .ok (.enter 36 args) w:=call_x 36 args w func36
@[simp] theorem call39 (args w):Sem.run prog (callFunc 39 args) w = .ok (.enter 39 args) w:=call_x 39 args w func39
@[simp] theorem call40 (args w):Sem.run prog (callFunc 40 args) w = .ok (.enter 40 args) w:=call_x 40 args w func40
@[simp] theorem call42 (args w):Sem.run prog (callFunc 42 args) w = .ok (.enter 42 args) w:=call_x 42 args w func42
@[simp] theorem call44 (args w):Sem.run prog (callFunc 44 args) w = .ok (.enter 44 args) w:=call_x 44 args w func44
@[simp] theorem call45 (args w):Sem.run prog (callFunc 45 args) w = .ok (.enter 45 args) w:=call_x 45 args w func45
@[simp] theorem call64 (args w):Sem.run prog (callFunc 64 args) w = .ok (.enter 64 args) w:=call_x 64 args w func64
@[simp] theorem call85 (args w):Sem.run prog (callFunc 85 args) w = .ok (.enter 85 args) w:=call_x 85 args w func85
@[simp] theorem call86 (args w):Sem.run prog (callFunc 86 args) w = .ok (.enter 86 args) w:=call_x 86 args w func86
@[simp] theorem call88 (args w):Sem.run prog (callFunc 88 args) w = .ok (.enter 88 args) w:=call_x 88 args w func88
@[simp] theorem call92 (args w):Sem.run prog (callFunc 92 args) w = .ok (.enter 92 args) w:=call_x 92 args w func92
@[simp] theorem call93 (args w):Sem.run prog (callFunc 93 args) w = .ok (.enter 93 args) w:=call_x 93 args w func93
@[simp] theorem call96 (args w):Sem.run prog (callFunc 96 args) w = .ok (.enter 96 args) w:=call_x 96 args w func96
@[simp] theorem call109 (args w):Sem.run prog (callFunc 109 args) w = .ok (.enter 109 args) w:=call_x 109 args w func109
@[simp] theorem call111 (args w):Sem.run prog (callFunc 111 args) w = .ok (.enter 111 args) w:=call_x 111 args w func111
@[simp] theorem call133 (args w):Sem.run prog (callFunc 133 args) w = .ok (.enter 133 args) w:=call_x 133 args w func133
@[simp] theorem call140 (args w):Sem.run prog (callFunc 140 args) w = .ok (.enter 140 args) w:=call_x 140 args w func140
@[simp] theorem call141 (args w):Sem.run prog (callFunc 141 args) w = .ok (.enter 141 args) w:=call_x 141 args w func141
@[simp] theorem call175 (args w):Sem.run prog (callFunc 175 args) w = .ok (.enter 175 args) w:=call_x 175 args w func175
end Go.Proofs.Tryzx
end
namespace Go.Proofs.YtbpnbhemdbgmjaaGreat
namespace X
open Go.RowKit
theorem loadAt_1 {ls:List Int} {n i:Nat} (h:inB (nth ls (i*3)) 0 ((n:Int) - 2)=false):loadAt ls n i=false:=by simp [loadAt,h]
theorem loadAt_2 {ls:List Int} (n:Nat) {i:Nat} (h:inB (nth ls (i*3+1)) 0 10000=false):loadAt ls n i=false:=by simp [loadAt,h]
theorem loadAt_3 {ls:List Int} (n:Nat) {i:Nat} (h:inB (nth ls (i*3+2)) (-60) 60=false):loadAt ls n i=false:=by simp [loadAt,h]
theorem loadAt_t {ls:List Int} {n i:Nat} (h1:inB (nth ls (i*3)) 0 ((n:Int) - 2)=true) (h2:inB (nth ls (i*3+1)) 0 10000=true) (h3:inB (nth ls (i*3+2)) (-60) 60=true):loadAt ls n i=true:=by simp [loadAt,h1,h2,h3]
theorem loadsB_1 {zs:List Int} {n:Nat} (ls:List Int) (q:Nat) (h:archB zs n=false):loadsB zs n ls q=false:=by simp [loadsB,h]
theorem loadsB_2 (zs:List Int) (n:Nat) (ls:List Int) {q:Nat} (h:¬ q≤6):loadsB zs n ls q=false:=by simp [loadsB,h]
theorem loadsB_3 (zs:List Int) {n:Nat} {ls:List Int} {q k:Nat} (hk:k<q) (h:loadAt ls n k=false):loadsB zs n ls q=false:=by simp [loadsB,allB_f hk h]
set_option maxRecDepth 100000 in
set_option maxHeartbeats 1600000 in
theorem sLoadsOk_any (A:Option Addr) (n c:Nat) (zs:List Int) (B:Option Addr) (q d:Nat) (ls:List Int) (w:World) (h:RecsAt w w.heap.size 4 A n zs) (hn:n≤1048576) (hl:RecsAt w w.heap.size 3 B q ls) (hq:q≤1048576) :
  Calls Tryzx.prog 92 #[.agg #[.slice A n c],.slice B q d] w fun e w'=>e = .returned (.bool (loadsB zs n ls q))∧Below w.heap.size w w':=by
 have HA:=Lib.hid ((Below.refl w.heap.size w).alloc (Nat.le_refl _) (.cells #[.slice A n c] 26));have H:=Lib.hid h;have HL:=Lib.hid hl;clear h hl;go_enter Tryzx.func92,Tryz.ntmps92;go_wp2;go_loopw [5] (fun i wr=>∃ k:Nat,k≤q∧i = .int .i64 k∧allTo (loadAt ls n) k∧wr.cell? ⟨w.heap.size,0,none⟩=some (.slice A n c)∧Below w.heap.size w wr) (fun i _=>q - (intOf i).toNat)
 case atStart=>exact ⟨0,Nat.zero_le _,rfl,allTo_0 _,cell_new0 _ _ _,HA.out⟩
 case round =>
  clear HA;obtain ⟨k,hk,rfl,hag,hbox,hb⟩:=hrel;have HB:=Lib.hid hb;have hgl:=World.block_lt_of_cell? wr _ hbox;simp only at hgl;by_cases hlt:k<q
  ·obtain ⟨b,off,rfl,hbB,hc⟩:=HL.out.2 (by omega)
   obtain ⟨x0,x1,x2⟩:=ldCells (fun i hi=>(hb.cell (by exact hbB)).trans (hc i hi)) hlt;have hz:=hb.size;have HB0:=Lib.hid (fun o=>hb.alloc hz o);have HBX:=Lib.hid (fun o=>(World.cell?_alloc_lt wr o ⟨w.heap.size,0,none⟩ (by simp; omega)).trans hbox)
   clear hb hc;have T1:=Lib.hid (fun e=>loadsB_3 zs hlt (loadAt_1 (ls:=ls) (n:=n) (i:=k) e));have T2:=Lib.hid (fun e=>loadsB_3 zs hlt (loadAt_2 (ls:=ls) n (i:=k) e));have T3:=Lib.hid (fun e=>loadsB_3 zs hlt (loadAt_3 (ls:=ls) n (i:=k) e));have TS:=Lib.hid (fun e1 e2 e3=>allTo_step hag (loadAt_t (ls:=ls) (n:=n) (i:=k) e1 e2 e3));generalize nth ls (k*3)=y0 at *
   generalize nth ls (k*3+1)=y1 at *
   generalize nth ls (k*3+2)=y2 at *
   clear hag;cases h1:inB y0 0 ((n:Int) - 2)
   ·have HF:=Lib.hid (T1.out h1)
    go_wp2_with (go_at_call 126; refine (l01In_any _ _ _ _).mono ?_; rw [h1]; rintro e w' ⟨rfl,rfl⟩);go_ret;exact ⟨ret_bool HF.out.symm,HB0.out _⟩
   ·cases h2:inB y1 0 10000
    ·have HF:=Lib.hid (T2.out h2)
     go_wp2_with (go_at_call 126; refine (l01In_any _ _ _ _).mono ?_; (first | rw [h1] | rw [h2]); rintro e w' ⟨rfl,rfl⟩);go_ret;exact ⟨ret_bool HF.out.symm,HB0.out _⟩
    ·cases h3:inB y2 (-60) 60
     ·have HF:=Lib.hid (T3.out h3)
      go_wp2_with (go_at_call 126; refine (l01In_any _ _ _ _).mono ?_; (first | rw [h1] | rw [h2] | rw [h3]); rintro e w' ⟨rfl,rfl⟩);go_ret;exact ⟨ret_bool HF.out.symm,HB0.out _⟩
     ·have HS:=Lib.hid (TS.out h1 h2 h3)
      go_wp2_with (go_at_call 126; refine (l01In_any _ _ _ _).mono ?_; (first | rw [h1] | rw [h2] | rw [h3]); rintro e w' ⟨rfl,rfl⟩);go_roundw
      case rel=>exact ⟨k+1,by omega,by go_num,HS.out,HBX.out _,HB0.out _⟩
      case measure=>first | (simp [intOf]; done) | (simp [intOf]; omega)
  ·obtain rfl:k=q:=by omega
   have HAG:=Lib.hid hag;have h1:=(H.out.below hb).mono hb.size;clear hb hag;cases hA:archB zs n
   ·have HF:=Lib.hid (loadsB_1 ls k hA)
    go_wp2_with fail
    refine (sArchOk_any _ _ _ zs _ h1 hn).mono ?_;rw [hA];rintro e w1 ⟨rfl,hb1⟩;have HB1:=Lib.hid (HB.out.trans (hb1.mono HB.out.size));go_wp2;go_ret;exact ⟨ret_bool HF.out.symm,HB1.out⟩
   ·by_cases hq6:k≤6
    ·have HF:=Lib.hid (loadsB_t hA hq6 HAG.out)
     have ht:decide ((k:Int)≤6)=true:=by simp; omega
     go_wp2_with fail
     refine (sArchOk_any _ _ _ zs _ h1 hn).mono ?_;rw [hA];rintro e w1 ⟨rfl,hb1⟩;have HB1:=Lib.hid (HB.out.trans (hb1.mono HB.out.size));go_wp2;go_ret;exact ⟨ret_bool HF.out.symm,HB1.out⟩
    ·have HF:=Lib.hid (loadsB_2 zs n ls hq6)
     have ht:decide ((k:Int)≤6)=false:=by simp; omega
     go_wp2_with fail
     refine (sArchOk_any _ _ _ zs _ h1 hn).mono ?_;rw [hA];rintro e w1 ⟨rfl,hb1⟩;have HB1:=Lib.hid (HB.out.trans (hb1.mono HB.out.size));go_wp2;go_ret;exact ⟨ret_bool HF.out.symm,HB1.out⟩
end X
namespace X
open Go.RowKit
theorem leftW_bd {ls:List Int} {n q:Nat} (zs:List Int) (h:allTo (loadAt ls n) q) (hq:q≤6):∀ k:Nat,-(200000*(k:Int))≤leftW zs ls q k∧leftW zs ls q k≤200000*(k:Int)
 | 0=>by simp [leftW]
 | k+1=>by
  have ih:=leftW_bd zs h hq k;have:=kwTo_bd zs h hq k (Nat.le_refl q);simp only [leftW];omega
theorem leftM_bd {ls:List Int} {n q:Nat} (zs:List Int) (h:allTo (loadAt ls n) q) (hq:q≤6):∀ k:Nat,-(9000000*(k:Int))≤leftM zs ls q k∧leftM zs ls q k≤9000000*(k:Int)
 | 0=>by simp [leftM]
 | k+1=>by
  have ih:=leftM_bd zs h hq k;have:=kmTo_bd zs h hq k (Nat.le_refl q);simp only [leftM];omega
end X
namespace X
open Go.RowKit
section
variable {zs : List Int} {W M W' M' : Nat → Int}
theorem rowTo_congr:∀ {n:Nat},(∀ k,k<n→W k=W' k∧M k=M' k)→rowTo zs W M n=rowTo zs W' M' n
 | 0,_=>rfl
 | n+1,h=>by
  simp only [rowTo];rw [rowTo_congr (fun k hk=>h k (by omega))];simp only [rowJ,(h n (by omega)).1,(h n (by omega)).2]
theorem rowsL_congr {n:Nat} (h:∀ k,k<n→W k=W' k∧M k=M' k):rowsL zs W M n=rowsL zs W' M' n:=by
 unfold rowsL;rw [rowTo_congr h]
end
end X
namespace X
open Go.RowKit
theorem infoInt:(Tryzx.prog.info? 3).map (fun i=>(i.zero,i.size,i.bytes))=some (some (.int .i64 0),1,8):=by kernel_rfl
end X
namespace Rn
open Go.Conc Go.WideShapes
section
variable {P : Program} {w : World} {r : Reach} {base : Nat} {t e u : TypeId} {fs : Array Field} {A : Option Addr} {n c : Nat}
theorem slice_atCells (ht:P.underlying t=some (.slice e)) (h:Value.okWide P w r base t (.slice A n c)):AtCells w A:=by
 simp only [Value.okWide,ht] at h;exact cell_atCells ht h
end
section
variable {noT : TypeId} {ws : List Win} {v : World} {B K n i : Nat} {A : Option Addr} {zs : List Int}
end
end Rn
section
open Go.ChangeShapes Go.WideShapes Go.ChangeAt Go.RowKit
def BytesAt (w:World) (B:Nat) (A:Option Addr) (n:Nat) (zs:List Int):Prop :=
 (zs.length=n∧∀ k,0≤nth zs k∧nth zs k≤255)∧(0<n→∃ b off,A=some ⟨b,off,none⟩∧b<B∧∀ k,k<n→w.cell? ⟨b,off+k,none⟩=some (.int .u8 (nth zs k)))
section
variable {w w' : World} {B B' n : Nat} {A : Option Addr} {zs : List Int}
theorem BytesAt.mono (h:BytesAt w B A n zs) (hB:B≤B'):BytesAt w B' A n zs :=
 ⟨h.1,fun hn=>by
  obtain ⟨b,off,e,hb,hc⟩:=h.2 hn;exact ⟨b,off,e,by omega,hc⟩⟩
theorem u8_bounds {n:Int} (h:(Lit.int .u8 n).wf=true):0≤n∧n≤255:=by
 simp [Lit.wf,IntKind.min,IntKind.max,IntKind.signed,IntKind.bits] at h;omega
end
theorem open_bytes_arg {H:Type} {enc:TypeId × Value→H} {P:Program} {W:World} {base:Nat} {t e:TypeId} {v:Value} {d:DataW H} {p:List MemPlace} (ht:P.underlying t=some (.slice e)) (he:P.underlying e=some (.int .u8)) (hc:P.cellsOf e=1)
  (hv:Value.okWide P W .any base t v) (h:DataW.Trod enc P W 0 (fun _=>true) true t v d p) (hlt:∀ x ∈ p,x.block<W.heap.size) :
  ∃ (A:Option Addr) (n c:Nat) (zs:List Int),v = .slice A n c∧BytesAt W W.heap.size A n zs∧n≤maxLen∧n≤c:=by
 obtain ⟨A,n,c,rfl⟩:=okWide_slice ht hv;obtain ⟨fuel,hf⟩:=h;rcases open_ints ht he hc hf with ⟨h0,_⟩ | ⟨a,len,cap,ys,h1,_,hl,hm,hy,hx,hcell,hwf⟩
 ·simp [Value.cells] at h0
  obtain ⟨rfl,rfl,rfl⟩:=h0;exact ⟨_,_,_,[],rfl,⟨⟨rfl,fun k=>by simp [nth]⟩,fun h=>absurd h (by omega)⟩,by simp [maxLen],Nat.le_refl _⟩
 ·simp [Value.cells] at h1
  obtain ⟨rfl,rfl,rfl⟩:=h1;simp only [if_true] at hy;have hw:∀ k,0≤nth (ys.take n) k∧nth (ys.take n) k≤255:=by
   intro k;by_cases hk:k<(ys.take n).length
   ·rw [nth_get _ _ hk]
    exact u8_bounds (hwf _ (List.mem_of_mem_take (List.getElem_mem hk)))
   ·simp [nth,List.getD,List.getElem?_eq_none (Nat.le_of_not_lt hk)]
  refine ⟨_,_,_,ys.take n,rfl,⟨⟨by simp; omega,hw⟩,fun hn => ?_⟩,by omega,hl⟩
  obtain ⟨b,off,rfl,hc'⟩:=ints_at hcell (by omega);refine ⟨b,off,rfl,?_,fun k hk => ?_⟩
  ·have hpx:p=MemPlace.row ⟨b,off,none⟩ ys.length:=by simpa using congrArg Prod.snd hx
   have:MemPlace.cell b off ∈ p:=by
    rw [hpx];simp [MemPlace.row];omega
   exact hlt _ this
  ·rw [hc' k (by omega)]
   have:nth (ys.take n) k=ys.getD k 0:=by
    simp [nth,List.getD,hk]
   rw [this]
end
namespace Rn
open Go.Conc Go.WideShapes
section
variable {noT : TypeId} {ws : List Win} {v : World} {B n i : Nat} {A : Option Addr} {zs : List Int}
theorem winOf_okB (hat:AtCells v A) (h:BytesAt v B A n zs):WinOk noT ws v (winOf .u8 A n zs):=by
 cases A with
 | none=>intro hl; cases hl
 | some a =>
  intro _;obtain ⟨hs,c,t,z,hh⟩:=hat a rfl;refine ⟨c,t,z,hh,fun k u hu => ?_⟩;have hk:k<n:=by
   have:=(Array.getElem?_eq_some_iff.1 hu).1;simpa [winOf] using this
  have hu':u = .int .u8 (nth zs k):=by
   simp [winOf,hk] at hu;exact hu.symm
  subst hu';obtain ⟨b,off,e,_,hc⟩:=h.2 (by omega);cases e;have:=hc k hk;simp only [World.cell?,hh,Option.isSome_none,Bool.false_eq_true,if_false] at this;exact ⟨_,by rw [Nat.add_comm]; exact this,.int _ _⟩
theorem lone_bytes (h:BytesAt v B A n zs) (hi:ws[i]?=some (winOf .u8 A n zs)) (t:Tp) (d:Nat):BytesAt ((lworld noT ws v).tp t d) ((lworld noT ws v).tp t d).heap.size (lA A i) n zs:=by
 refine ⟨h.1,fun hn => ?_⟩;obtain ⟨b,off,rfl,_,_⟩:=h.2 hn;refine ⟨Tryz.prog.globals.size+i,0,rfl,?_,fun k hk => ?_⟩
 ·show _<(lworld noT ws v).heap.size
  rw [l_size];have:=(List.getElem?_eq_some_iff.1 hi).1;omega
 ·show (match (lworld noT ws v).heap[Tryz.prog.globals.size+i]? with | some (.cells c _ _)=>c[0+k]? | _=>none)=_
  rw [l_at hi];simp [winOf,hk]
end
end Rn
end Go.Proofs.YtbpnbhemdbgmjaaGreat
section
namespace Go.Proofs.Tryzx
theorem ntmps8:Tryz.f8.ntmps=89:=Tryz.ntmps8
theorem ntmps39:Tryz.f39.ntmps=6:=Tryz.ntmps39
theorem ntmps88:Tryz.f88.ntmps=15:=Tryz.ntmps88
theorem ntmps109:Tryz.f109.ntmps=85:=Tryz.ntmps109
theorem ntmps140:Tryz.f140.ntmps=8:=Tryz.ntmps140
theorem ntmps141:Tryz.f141.ntmps=9:=Tryz.ntmps141
end Go.Proofs.Tryzx
end
namespace Go.Proofs.YtbpnbhemdbgmjaaGreat
namespace X
open Go.ChangeShapes Go.WideShapes Go.ChangeAt Go.RowKit
def BytesAt (w:World) (B:Nat) (A:Option Addr) (n:Nat) (zs:List Int):Prop :=
 (zs.length=n∧∀ k,0≤nth zs k∧nth zs k≤255)∧(0<n→∃ b off,A=some ⟨b,off,none⟩∧b<B∧∀ k,k<n→w.cell? ⟨b,off+k,none⟩=some (.int .u8 (nth zs k)))
section
variable {w w' : World} {B B' n : Nat} {A : Option Addr} {zs : List Int}
theorem BytesAt.mono (h:BytesAt w B A n zs) (hB:B≤B'):BytesAt w B' A n zs :=
 ⟨h.1,fun hn=>by
  obtain ⟨b,off,e,hb,hc⟩:=h.2 hn;exact ⟨b,off,e,by omega,hc⟩⟩
theorem BytesAt.below (h:BytesAt w B A n zs) (hb:Below B w w'):BytesAt w' B A n zs :=
 ⟨h.1,fun hn=>by
  obtain ⟨b,off,e,hb',hc⟩:=h.2 hn;exact ⟨b,off,e,hb',fun k hk'=>(hb.cell (p:=⟨b,off+k,none⟩) hb').trans (hc k hk')⟩⟩
theorem BytesAt.after (h:BytesAt w w.heap.size A n zs) (hb:Below w.heap.size w w'):BytesAt w' w'.heap.size A n zs:=(h.below hb).mono hb.size
theorem u8_bounds {n:Int} (h:(Lit.int .u8 n).wf=true):0≤n∧n≤255:=by
 simp [Lit.wf,IntKind.min,IntKind.max,IntKind.signed,IntKind.bits] at h;omega
end
theorem open_bytes_arg {H:Type} {enc:TypeId × Value→H} {P:Program} {W:World} {base:Nat} {t e:TypeId} {v:Value} {d:DataW H} {p:List MemPlace} (ht:P.underlying t=some (.slice e)) (he:P.underlying e=some (.int .u8)) (hc:P.cellsOf e=1)
  (hv:Value.okWide P W .any base t v) (h:DataW.Trod enc P W 0 (fun _=>true) true t v d p) (hlt:∀ x ∈ p,x.block<W.heap.size) :
  ∃ (A:Option Addr) (n c:Nat) (zs:List Int),v = .slice A n c∧BytesAt W W.heap.size A n zs∧n≤maxLen∧n≤c:=by
 obtain ⟨A,n,c,rfl⟩:=okWide_slice ht hv;obtain ⟨fuel,hf⟩:=h;rcases open_ints ht he hc hf with ⟨h0,_⟩ | ⟨a,len,cap,ys,h1,_,hl,hm,hy,hx,hcell,hwf⟩
 ·simp [Value.cells] at h0
  obtain ⟨rfl,rfl,rfl⟩:=h0;exact ⟨_,_,_,[],rfl,⟨⟨rfl,fun k=>by simp [nth]⟩,fun h=>absurd h (by omega)⟩,by simp [maxLen],Nat.le_refl _⟩
 ·simp [Value.cells] at h1
  obtain ⟨rfl,rfl,rfl⟩:=h1;simp only [if_true] at hy;have hw:∀ k,0≤nth (ys.take n) k∧nth (ys.take n) k≤255:=by
   intro k;by_cases hk:k<(ys.take n).length
   ·rw [nth_get _ _ hk]
    exact u8_bounds (hwf _ (List.mem_of_mem_take (List.getElem_mem hk)))
   ·simp [nth,List.getD,List.getElem?_eq_none (Nat.le_of_not_lt hk)]
  refine ⟨_,_,_,ys.take n,rfl,⟨⟨by simp; omega,hw⟩,fun hn => ?_⟩,by omega,hl⟩
  obtain ⟨b,off,rfl,hc'⟩:=ints_at hcell (by omega);refine ⟨b,off,rfl,?_,fun k hk => ?_⟩
  ·have hpx:p=MemPlace.row ⟨b,off,none⟩ ys.length:=by simpa using congrArg Prod.snd hx
   have:MemPlace.cell b off ∈ p:=by
    rw [hpx];simp [MemPlace.row];omega
   exact hlt _ this
  ·rw [hc' k (by omega)]
   have:nth (ys.take n) k=ys.getD k 0:=by
    simp [nth,List.getD,hk]
   rw [this]
end X
section
open Go.RowKit
theorem Only.drewN {g:Nat} {w w':World} (h:Only g w w') (k:Nat):Only g w (w'.drewN k):=⟨h.os,h.tape,h.output,h.size,h.block⟩
end
namespace X
open Go.RowKit
theorem and_low (a:Int) (m:Nat) (hm:m<9223372036854775808):0≤bits .and .i64 a (m:Int)∧bits .and .i64 a (m:Int)≤(m:Int):=by
 show 0≤IntKind.i64.wrap ((BitVec.ofInt 64 a &&& BitVec.ofInt 64 (m:Int)).toNat:Int)∧IntKind.i64.wrap ((BitVec.ofInt 64 a &&& BitVec.ofInt 64 (m:Int)).toNat:Int)≤(m:Int)
 have e:(BitVec.ofInt 64 (m:Int)).toNat=m:=by
  rw [BitVec.ofInt_natCast,BitVec.toNat_ofNat]; exact Nat.mod_eq_of_lt (by omega)
 rw [BitVec.toNat_and,e];have h:=Nat.and_le_right (n:=(BitVec.ofInt 64 a).toNat) (m:=m);rw [IntWalk.i64_in _ (by omega)];omega
def Cur (w:World) (g:Nat) (A:Option Addr) (n c i:Nat) (h:Int):Prop:=RowF w g 131 3 (fun j=>match j with | 0 => .slice A n c | 1 => .int .i64 (i:Int) | _ => .int .i64 h)
theorem Cur.after {w w':World} {g:Nat} {A:Option Addr} {n c i:Nat} {h:Int} (hc:Cur w g A n c i h) (hb:Below w.heap.size w w'):Cur w' g A n c i h:=RowF.after hc hb
def CurAt (w:World) (g:Nat) (A:Option Addr) (n c:Nat):Prop:=∃ (i:Nat) (h:Int),i≤n∧Cur w g A n c i h
theorem CurAt.after {w w':World} {g:Nat} {A:Option Addr} {n c:Nat} (hc:CurAt w g A n c) (hb:Below w.heap.size w w'):CurAt w' g A n c:=by
 obtain ⟨i,h,hi,hc⟩:=hc;exact ⟨i,h,hi,hc.after hb⟩
set_option maxRecDepth 100000 in
set_option maxHeartbeats 1600000 in
theorem l01New_any (A:Option Addr) (n c:Nat) (zs:List Int) (w:World) (h:BytesAt w w.heap.size A n zs) (hn:n≤1048576) :
  Calls Tryzx.prog 64 #[.slice A n c] w fun e w'=>∃ g,e = .returned (.pointer (some ⟨g,0,none⟩))∧w.heap.size≤g∧CurAt w' g A n c∧Below w.heap.size w w':=by
 have H:=Lib.hid h;clear h;go_enter Tryzx.func64,Tryz.ntmps64;go_wp2;go_loop [3,4] (fun m i=>∃ (k:Nat) (x:Int),k≤n∧i = .int .i64 k∧m = .int .i64 x) (fun _ i=>n - (intOf i).toNat)
 case atStart=>exact ⟨0,_,Nat.zero_le _,rfl,rfl⟩
 case round =>
  obtain ⟨k,x,hk,rfl,rfl⟩:=hrel;by_cases hlt:k<n∧k<4000
  ·obtain ⟨b,off,rfl,hbB,hc⟩:=H.out.2 (by omega)
   have hx:=hc k hlt.1;have ki:(k:Int)<(n:Int):=by omega
   have k0:(0:Int)≤(k:Int):=by omega
   have k4:(k:Int)<4000:=by omega
   clear hc;go_wp2;go_round
   case rel=>exact ⟨k+1,_,by omega,by go_num,rfl⟩
   case measure=>simp [intOf]; omega
  ·have HB:=Lib.hid ((Below.refl w.heap.size w).alloc (Nat.le_refl _) (.cells #[.slice A n c,.int .i64 0,.int .i64 x] 131))
   have HC:Hid (Cur (w.alloc (.cells #[.slice A n c,.int .i64 0,.int .i64 x] 131)) w.heap.size A n c 0 x):=RowF.of_row (World.rowIs_alloc w #[.slice A n c,.int .i64 0,.int .i64 x] 131 _ (fun j hj=>by simp at hj; match j,hj with | 0,_=>rfl | 1,_=>rfl | 2,_=>rfl))
   by_cases h1:k<n
   ·have k1:(k:Int)<(n:Int):=by omega
    have k4:¬ (k:Int)<4000:=by omega
    go_wp2;go_ret;exact ⟨_,rfl,Nat.le_refl _,⟨0,x,Nat.zero_le _,HC.out⟩,HB.out⟩
   ·have k1:¬ (k:Int)<(n:Int):=by omega
    go_wp2;go_ret;exact ⟨_,rfl,Nat.le_refl _,⟨0,x,Nat.zero_le _,HC.out⟩,HB.out⟩
def DrawPost (w:World) (g:Nat) (A:Option Addr) (n c:Nat) (m:Int) (e:Ending) (w':World):Prop:=∃ r:Int,e = .returned (.int .i64 r)∧0≤r∧r<m∧CurAt w' g A n c∧Only g w w'
set_option maxRecDepth 100000 in
set_option maxHeartbeats 3200000 in
theorem l01Byte_any (g:Nat) (A:Option Addr) (n c:Nat) (zs:List Int) (w:World) (h:BytesAt w g A n zs) (hn:n≤1048576) (hc:CurAt w g A n c) :
  Calls Tryzx.prog 175 #[.pointer (some ⟨g,0,none⟩)] w (DrawPost w g A n c 256):=by
 obtain ⟨i,x,hi,hc⟩:=hc;have HC:=Lib.hid hc;have c0:w.cell? ⟨g,0,none⟩=some (.slice A n c):=hc.cell (i:=0) (by omega);have c1:w.cell? ⟨g,1,none⟩=some (.int .i64 (i:Int)):=hc.cell (i:=1) (by omega);have c2:w.cell? ⟨g,2,none⟩=some (.int .i64 x):=hc.cell (i:=2) (by omega);have f1:=hc.frozen 1;have f2:=hc.frozen 2;go_enter Tryzx.func175,Tryz.ntmps175;go_wp2_with fail
 generalize wrap64 (wrap64 (x*6364136223846793005)+1442695040888963407)=y;have HC1:Hid (Cur (w.setCell ⟨g,2,none⟩ (.int .i64 y)) g A n c i y):=(RowF.set HC.out 2 (.int .i64 y)).congr (fun j hj=>by match j,hj with | 0,_=>rfl | 1,_=>rfl | 2,_=>rfl);have HO1:=Lib.hid (Only.setCell (Only.refl g w) 2 (.int .i64 y));have hb1:∀ k,k<n→∃ b off,A=some ⟨b,off,none⟩∧(w.setCell ⟨g,2,none⟩ (.int .i64 y)).cell? ⟨b,off+k,none⟩=some (.int .u8 (nth zs k)):=fun k hk=>by
  obtain ⟨b,off,e,hb,hcc⟩:=h.2 (by omega);exact ⟨b,off,e,(HO1.out.cell (p:=⟨b,off+k,none⟩) (by simp; omega)).trans (hcc k hk)⟩
 have HB1:=Lib.hid hb1;generalize w.setCell ⟨g,2,none⟩ (.int .i64 y)=w1 at *
 have hz:=h.1;clear c0 c1 c2 f1 f2 hb1 hc HC h;have c0:w1.cell? ⟨g,0,none⟩=some (.slice A n c):=RowF.cell HC1.out (i:=0) (by omega);have c1:w1.cell? ⟨g,1,none⟩=some (.int .i64 (i:Int)):=RowF.cell HC1.out (i:=1) (by omega);have c2:w1.cell? ⟨g,2,none⟩=some (.int .i64 y):=RowF.cell HC1.out (i:=2) (by omega);have f1:=RowF.frozen HC1.out 1;go_quiet (fail)
 have hr:=and_low (bits BinOp.xor IntKind.i64 (y / 8589934592) (y / 35184372088832)) 255 (by omega);have e255:((255:Nat):Int)=255:=rfl;rw [e255] at hr;generalize bits BinOp.and IntKind.i64 (bits BinOp.xor IntKind.i64 (y / 8589934592) (y / 35184372088832)) 255=r at *
 clear e255;go_wp2_with fail
 by_cases hlt:i<n
 ·obtain ⟨b,off,rfl,hx⟩:=HB1.out i hlt
  have hzz:=hz.2 i;have ki:(i:Int)<(n:Int):=by omega
  have k0:(0:Int)≤(i:Int):=by omega
  go_quiet (fail)
  go_wp2_with fail
  go_quiet (fail)
  have hr2:=and_low (r+nth zs i) 255 (by omega);have e255:((255:Nat):Int)=255:=rfl;rw [e255] at hr2;generalize bits BinOp.and IntKind.i64 (r+nth zs i) 255=r2 at *
  clear e255;have HC2:Hid (∀ k,Cur ((w1.drewN k).setCell ⟨g,1,none⟩ (.int .i64 ((i:Int)+1))) g (some ⟨b,off,none⟩) n c (i+1) y):=fun k=>(RowF.set (RowF.drewN HC1.out k) 1 (.int .i64 ((i:Int)+1))).congr (fun j hj=>by match j,hj with | 0,_=>rfl | 1,_=>rfl | 2,_=>rfl)
  go_wp2;go_ret;exact ⟨r2,rfl,hr2.1,by omega,⟨i+1,y,by omega,HC2.out _⟩,(HO1.out.drewN _).setCell 1 _⟩
 ·have ki:¬ (i:Int)<(n:Int):=by omega
  go_quiet (fail)
  go_wp2;go_ret;exact ⟨r,rfl,hr.1,by omega,⟨i,y,hi,HC1.out⟩,HO1.out.drewN _⟩
set_option maxRecDepth 100000 in
set_option maxHeartbeats 3200000 in
theorem l01Below_any (g:Nat) (A:Option Addr) (n c:Nat) (zs:List Int) (m:Int) (w:World) (h:BytesAt w g A n zs) (hn:n≤1048576) (hc:CurAt w g A n c) (h0:0<m) (h1:m≤256) :
  Calls Tryzx.prog 133 #[.pointer (some ⟨g,0,none⟩),.int .i64 m] w (DrawPost w g A n c m):=by
 go_enter Tryzx.func133,Tryz.ntmps133;go_wp2_with fail
 refine (l01Byte_any g A n c zs _ h hn hc).mono ?_;rintro e w1 ⟨r,rfl,hr0,hr1,hc1,ho1⟩;have HR:=Lib.hid (show CurAt w1 g A n c∧Only g w w1 from ⟨hc1,ho1⟩);have hm0:¬ m=0:=by omega
 have hmb:(m == 0)=false:=by simpa using hm0
 have hq1:0≤r % m:=Int.emod_nonneg _ hm0;have hq2:r % m<m:=Int.emod_lt_of_pos _ h0;clear hc1 ho1 hc h;go_wp2;go_ret;exact ⟨r % m,rfl,hq1,hq2,HR.out.1,HR.out.2⟩
theorem BytesAt.only {w w':World} {g B n:Nat} {A:Option Addr} {zs:List Int} (h:BytesAt w B A n zs) (ho:Only g w w') (hB:B≤g):BytesAt w' B A n zs :=
 ⟨h.1,fun hn=>by
  obtain ⟨b,off,e,hb,hc⟩:=h.2 hn;exact ⟨b,off,e,hb,fun k hk'=>(ho.cell (p:=⟨b,off+k,none⟩) (by simp; omega)).trans (hc k hk')⟩⟩
end X
namespace X
open Go.RowKit
def ShpPost (w:World) (e:Ending) (w':World):Prop :=
 ∃ (g m:Nat) (zs:List Int),e = .returned (.agg #[.slice (some ⟨g,0,none⟩) m m])∧w.heap.size<g∧RowF w' g 45 (m*4) (ints zs)∧zs.length=m*4∧archB zs m=true∧Below w.heap.size w w'
theorem rowF_lit (w:World) (t:TypeId) (zs:List Int) (m:Nat) (hs:zs.length=m):RowF (w.alloc (.cells (zs.map (Value.int .i64)).toArray t)) w.heap.size t m (ints zs):=by
 subst hs;have h:=World.rowIs_alloc w (zs.map (Value.int .i64)).toArray t (ints zs) (fun j hj=>by
  simp at hj;simp [ints,nth_get _ _ hj,hj])
 have e:(zs.map (Value.int .i64)).toArray.size=zs.length:=by simp
 rw [e] at h;exact RowF.of_row h
def shp0:List Int := [-8,0,-11,0,-6,5,-8,7,-2,8,-3,11,2,8,3,11,6,5,8,7,8,0,11,0]
theorem shp0_ok:archB shp0 6=true:=by decide
def shp1:List Int := [0,0,-2,3,5,2,4,6,11,2,12,6,16,0,18,3]
theorem shp1_ok:archB shp1 4=true:=by decide
def shp2:List Int := [0,0,-3,0,2,6,0,8,6,11,6,14,10,6,12,8,12,0,15,0]
theorem shp2_ok:archB shp2 5=true:=by decide
def shp3:List Int := [0,0,-1,4,4,0,4,4,8,0,8,4,12,0,13,4]
theorem shp3_ok:archB shp3 4=true:=by decide
def shp4:List Int := [-9,0,-10,0,-6,7,-7,8,0,9,0,10,6,7,7,8,9,0,10,0]
theorem shp4_ok:archB shp4 5=true:=by decide
def shp5:List Int := [0,0,-2,2,6,4,6,7,12,2,14,4]
theorem shp5_ok:archB shp5 3=true:=by decide
set_option maxRecDepth 100000 in
set_option maxHeartbeats 12800000 in
theorem l06Shape_any (k:Int) (w:World) (h0:0≤k) (h1:k<6):Calls Tryzx.prog 111 #[.int .i64 k] w (ShpPost w):=by
 have HB0:Hid (Below w.heap.size w (w.alloc (.cells #[.slice none 0 0] 26))):=Lib.hid ((Below.refl _ _).alloc (Nat.le_refl _) _);have h:k=0 ∨ k=1 ∨ k=2 ∨ k=3 ∨ k=4 ∨ k=5:=by omega
 clear h0 h1;rcases h with rfl | rfl | rfl | rfl | rfl | rfl
 ·go_enter Tryzx.func111,Tryz.ntmps111
  go_wp2;refine bodyPost_ret (v := .agg #[.slice (some ⟨w.heap.size+1,0,none⟩) 6 6]) (by simp [results,Tryz.results111,go_sem]) rfl ?_;refine ⟨w.heap.size+1,6,shp0,rfl,by omega,?_,rfl,shp0_ok,?_⟩
  ·have h:=rowF_lit (w.alloc (.cells #[.slice (some ⟨w.heap.size+1,0,none⟩) 6 6] 26)) 45 shp0 (6*4) rfl
   rw [World.size_alloc] at h;exact h
  ·exact (((Below.refl _ _).alloc (Nat.le_refl _) _).alloc (by simp) _)
 ·go_enter Tryzx.func111,Tryz.ntmps111
  go_wp2;refine bodyPost_ret (v := .agg #[.slice (some ⟨w.heap.size+1,0,none⟩) 4 4]) (by simp [results,Tryz.results111,go_sem]) rfl ?_;refine ⟨w.heap.size+1,4,shp1,rfl,by omega,?_,rfl,shp1_ok,?_⟩
  ·have h:=rowF_lit (w.alloc (.cells #[.slice (some ⟨w.heap.size+1,0,none⟩) 4 4] 26)) 45 shp1 (4*4) rfl
   rw [World.size_alloc] at h;exact h
  ·exact (((Below.refl _ _).alloc (Nat.le_refl _) _).alloc (by simp) _)
 ·go_enter Tryzx.func111,Tryz.ntmps111
  go_wp2;refine bodyPost_ret (v := .agg #[.slice (some ⟨w.heap.size+1,0,none⟩) 5 5]) (by simp [results,Tryz.results111,go_sem]) rfl ?_;refine ⟨w.heap.size+1,5,shp2,rfl,by omega,?_,rfl,shp2_ok,?_⟩
  ·have h:=rowF_lit (w.alloc (.cells #[.slice (some ⟨w.heap.size+1,0,none⟩) 5 5] 26)) 45 shp2 (5*4) rfl
   rw [World.size_alloc] at h;exact h
  ·exact (((Below.refl _ _).alloc (Nat.le_refl _) _).alloc (by simp) _)
 ·go_enter Tryzx.func111,Tryz.ntmps111
  go_wp2;refine bodyPost_ret (v := .agg #[.slice (some ⟨w.heap.size+1,0,none⟩) 4 4]) (by simp [results,Tryz.results111,go_sem]) rfl ?_;refine ⟨w.heap.size+1,4,shp3,rfl,by omega,?_,rfl,shp3_ok,?_⟩
  ·have h:=rowF_lit (w.alloc (.cells #[.slice (some ⟨w.heap.size+1,0,none⟩) 4 4] 26)) 45 shp3 (4*4) rfl
   rw [World.size_alloc] at h;exact h
  ·exact (((Below.refl _ _).alloc (Nat.le_refl _) _).alloc (by simp) _)
 ·go_enter Tryzx.func111,Tryz.ntmps111
  go_wp2;refine bodyPost_ret (v := .agg #[.slice (some ⟨w.heap.size+1,0,none⟩) 5 5]) (by simp [results,Tryz.results111,go_sem]) rfl ?_;refine ⟨w.heap.size+1,5,shp4,rfl,by omega,?_,rfl,shp4_ok,?_⟩
  ·have h:=rowF_lit (w.alloc (.cells #[.slice (some ⟨w.heap.size+1,0,none⟩) 5 5] 26)) 45 shp4 (5*4) rfl
   rw [World.size_alloc] at h;exact h
  ·exact (((Below.refl _ _).alloc (Nat.le_refl _) _).alloc (by simp) _)
 ·go_enter Tryzx.func111,Tryz.ntmps111
  go_wp2;refine bodyPost_ret (v := .agg #[.slice (some ⟨w.heap.size+1,0,none⟩) 3 3]) (by simp [results,Tryz.results111,go_sem]) rfl ?_;refine ⟨w.heap.size+1,3,shp5,rfl,by omega,?_,rfl,shp5_ok,?_⟩
  ·have h:=rowF_lit (w.alloc (.cells #[.slice (some ⟨w.heap.size+1,0,none⟩) 3 3] 26)) 45 shp5 (3*4) rfl
   rw [World.size_alloc] at h;exact h
  ·exact (((Below.refl _ _).alloc (Nat.le_refl _) _).alloc (by simp) _)
end X
namespace X
open Go.RowKit
def CpyPost (w:World) (n:Nat) (zs:List Int) (e:Ending) (w':World):Prop :=
 ∃ g c:Nat,e = .returned (.agg #[.slice (some ⟨g,0,none⟩) n c])∧w.heap.size<g∧n≤c∧RowF w' g 45 (n*4) (ints zs)∧Below w.heap.size w w'
set_option maxRecDepth 100000 in
set_option maxHeartbeats 3200000 in
theorem l06Copy_any (b n c:Nat) (zs:List Int) (w:World) (h:RowF w b 45 (n*4) (ints zs)) (hl:zs.length=n*4) (hn1:1≤n) (hn:n≤1048576) :
  Calls Tryzx.prog 140 #[.agg #[.slice (some ⟨b,0,none⟩) n c]] w (CpyPost w n zs):=by
 have hz:((w.alloc (.cells #[.slice (some ⟨b,0,none⟩) n c] 26)).alloc (.cells #[.slice none 0 0] 26)).heap.size=w.heap.size+1+1:=by simp
 have HBA:Hid (Below w.heap.size w (((w.alloc (.cells #[.slice (some ⟨b,0,none⟩) n c] 26)).alloc (.cells #[.slice none 0 0] 26)).alloc (.cells #[] 45))):=Lib.hid ((((Below.refl _ _).alloc (Nat.le_refl _) _).alloc (by simp) _).alloc (by simp; omega) _)
 have HBC:Hid (Below (w.heap.size+1+1) ((w.alloc (.cells #[.slice (some ⟨b,0,none⟩) n c] 26)).alloc (.cells #[.slice none 0 0] 26)) (((w.alloc (.cells #[.slice (some ⟨b,0,none⟩) n c] 26)).alloc (.cells #[.slice none 0 0] 26)).alloc (.cells #[] 45))):=Lib.hid ((Below.refl _ _).alloc (by rw [hz]; exact Nat.le_refl _) _);have HB2:Hid (Below w.heap.size w ((w.alloc (.cells #[.slice (some ⟨b,0,none⟩) n c] 26)).alloc (.cells #[.slice none 0 0] 26))):=Lib.hid (((Below.refl _ _).alloc (Nat.le_refl _) _).alloc (by simp) _);have HO:Hid (OwnR (((w.alloc (.cells #[.slice (some ⟨b,0,none⟩) n c] 26)).alloc (.cells #[.slice none 0 0] 26)).alloc (.cells #[] 45)) (w.heap.size+1+1) 45 4 (.slice (some ⟨w.heap.size+1+1,0,none⟩) 0 0) 0 []):=Lib.hid (by
  have h:=OwnR.new ((w.alloc (.cells #[.slice (some ⟨b,0,none⟩) n c] 26)).alloc (.cells #[.slice none 0 0] 26)) 45 4;rw [hz] at h;exact h)
 have HR0:Hid (RowF ((w.alloc (.cells #[.slice (some ⟨b,0,none⟩) n c] 26)).alloc (.cells #[.slice none 0 0] 26)) (w.heap.size+1) 26 1 (fun _ => .slice none 0 0)):=Lib.hid (by
  have h:=rowF_new1S (w.alloc (.cells #[.slice (some ⟨b,0,none⟩) n c] 26)) (.slice none 0 0) 26;rw [World.size_alloc] at h;exact h)
 have HH:=Lib.hid (h.after HBA.out);have hbl:=h.lt;clear h hz;go_enter Tryzx.func140,Tryz.ntmps140;go_wp2_with (at_builtin; refine wpList_appR _ rfl (.tmp 3) (.tmp 5) 24 rfl (w.heap.size+1+1) 45 4 32 #[.int .i64 0,.int .i64 0,.int .i64 0,.int .i64 0] Tryzx.underlying24 infoJoint rfl (by decide) (by decide) _ 0 [] rfl (by exact HO.out) b n c zs rfl hl (fun i hi=>by exact HH.out.cell hi) (by omega) (w.heap.size+1+1) ((w.alloc (.cells #[.slice (some ⟨b,0,none⟩) n c] 26)).alloc (.cells #[.slice none 0 0] 26)) (by exact HBC.out) (Nat.le_refl _) (by simp) _ rfl ?_ hn1; intro g' cap' w3 hown3 hb3; have HR3:=Lib.hid (HR0.out.below hb3 (by omega)); have r0:w3.cell? ⟨w.heap.size+1,0,none⟩=some (.slice none 0 0):=HR3.out.cell (i:=0) (by omega); have f0:=HR3.out.frozen 0; have z0:=HR3.out.lt);have HB3:=Lib.hid (HB2.out.trans (hb3.mono (by omega)));have HG:Hid (w.heap.size+1+1≤g'∧n≤cap'∧RowF w3 g' 45 (n*4) (ints zs)):=Lib.hid (by
  rcases hown3.form with ⟨_,h2,_⟩ | ⟨g,cap,e,h1,h2,h3⟩
  ·omega
  ·simp only [Value.slice.injEq,Option.some.injEq,Addr.mk.injEq,and_true,true_and] at e
   obtain ⟨rfl,rfl⟩:=e;refine ⟨h1,by omega,?_⟩;simpa using h3)
 clear hown3 hb3;go_wp2;refine bodyPost_ret (v := .agg #[.slice (some ⟨g',0,none⟩) n cap']) (by simp [results,Tryz.results140,go_sem, *]) rfl ?_;exact ⟨g',cap',rfl,by have:=HG.out.1; omega,HG.out.2.1,HG.out.2.2.set_other (by have:=HG.out.1; simp; omega) _,HB3.out.setCell (by simp) _⟩
set_option maxHeartbeats 1600000 in
theorem l01Once_any (g:Nat) (A:Option Addr) (n c:Nat) (zs:List Int) (m:Int) (w:World) (h:BytesAt w g A n zs) (hn:n≤1048576) (hc:CurAt w g A n c) (h0:0<m) (h1:m≤256) :
  Calls Tryzx.prog 141 #[.pointer (some ⟨g,0,none⟩),.int .i64 m] w fun e w'=>∃ b:Bool,e = .returned (.bool b)∧CurAt w' g A n c∧Only g w w':=by
 go_enter Tryzx.func141,Tryz.ntmps141;go_wp2_with fail
 refine (l01Below_any g A n c zs m _ h hn hc h0 h1).mono ?_;rintro e w1 ⟨r,rfl,hr0,hr1,hc1,ho1⟩;have HR:=Lib.hid (show CurAt w1 g A n c∧Only g w w1 from ⟨hc1,ho1⟩);clear hc1 ho1 hc h;go_wp2;go_ret;exact ⟨_,rfl,HR.out.1,HR.out.2⟩
end X
namespace X
open Go.RowKit
def KeepB (g B:Nat) (w w':World):Prop:=∀ k,k<B→k ≠ g→w'.heap[k]?=w.heap[k]?
theorem KeepB.only {g B:Nat} {w wr w':World} (h:KeepB g B w wr) (ho:Only g wr w'):KeepB g B w w':=fun k hk hg=>(ho.block k hg).trans (h k hk hg)
theorem KeepB.belowB {g B C:Nat} {w wr w':World} (h:KeepB g B w wr) (hb:Below C wr w') (hC:B≤C):KeepB g B w w':=fun k hk hg=>(hb.block k (by omega)).trans (h k hk hg)
theorem KeepB.set {g B:Nat} {w wr:World} (h:KeepB g B w wr) {p:Addr} (hp:B≤p.block) (v:Value):KeepB g B w (wr.setCell p v):=h.belowB ((Below.refl B wr).setCell hp v) (Nat.le_refl _)
theorem KeepB.trans {g B B':Nat} {w wr w':World} (h:KeepB g B w wr) (h':KeepB g B' wr w') (hB:B≤B'):KeepB g B w w':=fun k hk hg=>(h' k (by omega) hg).trans (h k hk hg)
theorem KeepB.row {g B:Nat} {w w':World} (h:KeepB g B w w') {k M:Nat} {T:TypeId} {f:Nat→Value} (hr:RowF w k T M f) (hk:k<B) (hg:k ≠ g):RowF w' k T M f:=RowF.of_block hr (h k hk hg)
structure ArSt (w wr:World) (g:Nat) (A:Option Addr) (n c:Nat) (zs:List Int) (X b m d:Nat) (Z:List Int):Prop where
 res:RowF wr w.heap.size 26 1 (fun _ => .slice none 0 0)
 box:RowF wr X 26 1 (fun _ => .slice (some ⟨b,0,none⟩) m d)
 row:RowF wr b 45 (m*4) (ints Z)
 ok:Z.length=m*4∧archB Z m=true∧m≤d
 far:g<w.heap.size∧w.heap.size<X∧w.heap.size<b
 cur:CurAt wr g A n c
 code:BytesAt wr g A n zs
 below:Below g w wr
 keep:KeepB g w.heap.size w wr
section
variable {w wr w' : World} {g : Nat} {A : Option Addr} {n c : Nat} {zs : List Int} {X b m d : Nat} {Z : List Int}
theorem ArSt.only (h:ArSt w wr g A n c zs X b m d Z) (ho:Only g wr w') (hc:CurAt w' g A n c):ArSt w w' g A n c zs X b m d Z :=
 ⟨h.res.only ho (by have:=h.far; omega),h.box.only ho (by have:=h.far; omega),h.row.only ho (by have:=h.far; omega),h.ok,h.far,hc,h.code.only ho (Nat.le_refl _),h.below.trans (ho.below (Nat.le_refl _)),h.keep.only ho⟩
theorem ArSt.after (h:ArSt w wr g A n c zs X b m d Z) (hb:Below wr.heap.size wr w'):ArSt w w' g A n c zs X b m d Z :=
 ⟨h.res.after hb,h.box.after hb,h.row.after hb,h.ok,h.far,h.cur.after hb,h.code.below (hb.mono (by have:=h.far; have:=h.below.size; omega)),h.below.trans (hb.mono (by have:=h.far; have:=h.below.size; omega)),h.keep.belowB hb h.below.size⟩
theorem ArSt.setOther (h:ArSt w wr g A n c zs X b m d Z) {p:Addr} (h1:w.heap.size<p.block) (h2:X ≠ p.block) (h3:b ≠ p.block) (v:Value):ArSt w (wr.setCell p v) g A n c zs X b m d Z:=by
 have hf:=h.far;refine ⟨h.res.set_other (by omega) v,h.box.set_other h2 v,h.row.set_other h3 v,h.ok,h.far,?_,h.code.below ((Below.refl _ _).setCell (by omega) v),h.below.setCell (by omega) v,h.keep.set (by omega) v⟩;obtain ⟨i,x,hi,hc⟩:=h.cur;exact ⟨i,x,hi,RowF.set_other hc (by omega) v⟩
theorem ArSt.drew (h:ArSt w wr g A n c zs X b m d Z):ArSt w wr.drew g A n c zs X b m d Z :=
 ⟨h.res,h.box,h.row,h.ok,h.far,h.cur,h.code,below_drewN h.below 1,h.keep⟩
theorem ArSt.swap {b' d':Nat} {Z':List Int} (h:ArSt w wr g A n c zs X b m d Z) (hr:RowF wr b' 45 (m*4) (ints Z')) (ho:Z'.length=m*4∧archB Z' m=true∧m≤d') (hb:w.heap.size<b'∧X ≠ b'):ArSt w (wr.setCell ⟨X,0,none⟩ (.slice (some ⟨b',0,none⟩) m d')) g A n c zs X b' m d' Z':=by
 have hf:=h.far;refine ⟨h.res.set_other (by simp; omega) _,(h.box.set 0 _).congr (fun j hj=>by simp; omega),hr.set_other (by simp; omega) _,ho,⟨hf.1,hf.2.1,hb.1⟩,?_,h.code.below ((Below.refl _ _).setCell (by simp; omega) _),h.below.setCell (by simp; omega) _,h.keep.set (by simp; omega) _⟩
 obtain ⟨i,x,hi,hc⟩:=h.cur;exact ⟨i,x,hi,RowF.set_other hc (by simp; omega) _⟩
end
theorem nth_setZ (Z:List Int) (t:Nat) (x:Int) (i:Nat) (ht:t<Z.length):nth (Z.set t x) i=if i=t then x else nth Z i:=by
 by_cases hi:i<Z.length
 ·rw [nth_get _ _ (by rw [List.length_set]; exact hi),List.getElem_set]
  by_cases e:t=i
  ·subst e; simp
  ·rw [if_neg e,if_neg (fun h=>e h.symm),nth_get _ _ hi]
 ·have e:¬ i=t:=by omega
  rw [if_neg e];simp [nth,List.getD,Nat.not_lt.1 hi]
theorem rowF_put2 {w:World} {b M p:Nat} {E:TypeId} {Z:List Int} (h:RowF w b E M (ints Z)) (hl:Z.length=M) (hp:p+1<M) (x y:Int):RowF ((w.setCell ⟨b,p,none⟩ (.int .i64 x)).setCell ⟨b,p+1,none⟩ (.int .i64 y)).drew b E M (ints ((Z.set p x).set (p+1) y)):=by
 refine (((h.set p (.int .i64 x)).set (p+1) (.int .i64 y)).congr (fun j hj => ?_)).drew;simp only [ints];rw [nth_setZ _ _ _ _ (by rw [List.length_set]; omega),nth_setZ _ _ _ _ (by omega)]
 by_cases e1:j=p+1
 ·simp [e1]
 ·by_cases e2:j=p
  ·subst e2; simp
  ·simp [e1,e2]
def ArPostK (w:World) (g:Nat) (A:Option Addr) (n c:Nat) (e:Ending) (w':World):Prop :=
 ∃ (b m d:Nat) (Z:List Int),e = .returned (.agg #[.slice (some ⟨b,0,none⟩) m d])∧w.heap.size<b∧m≤d∧RowF w' b 45 (m*4) (ints Z)∧Z.length=m*4∧archB Z m=true∧CurAt w' g A n c∧KeepB g w.heap.size w w'∧Below g w w'
def ArPost (w:World) (g:Nat) (A:Option Addr) (n c:Nat) (e:Ending) (w':World):Prop :=
 ∃ (b m d:Nat) (Z:List Int),e = .returned (.agg #[.slice (some ⟨b,0,none⟩) m d])∧w.heap.size<b∧m≤d∧RowF w' b 45 (m*4) (ints Z)∧Z.length=m*4∧archB Z m=true∧CurAt w' g A n c∧Below g w w'
set_option maxRecDepth 100000 in
set_option maxHeartbeats 6400000 in
theorem l06Arch_keep (g:Nat) (A:Option Addr) (n c:Nat) (zs:List Int) (w:World) (h:BytesAt w g A n zs) (hn:n≤1048576) (hc:CurAt w g A n c) (hg:g<w.heap.size) :
  Calls Tryzx.prog 109 #[.pointer (some ⟨g,0,none⟩)] w (ArPostK w g A n c):=by
 have h0:BytesAt (w.alloc (.cells #[.slice none 0 0] 26)) g A n zs:=h.below ((Below.refl _ _).alloc (by omega) _);have hc0:CurAt (w.alloc (.cells #[.slice none 0 0] 26)) g A n c:=hc.after ((Below.refl _ _).alloc (Nat.le_refl _) _);have HB0:Hid (Below g w (w.alloc (.cells #[.slice none 0 0] 26))):=Lib.hid ((Below.refl _ _).alloc (by omega) _);have HV0:Hid (RowF (w.alloc (.cells #[.slice none 0 0] 26)) w.heap.size 26 1 (fun _ => .slice none 0 0)):=Lib.hid (rowF_new1S _ _ _);have HS0:Hid ((w.alloc (.cells #[.slice none 0 0] 26)).heap.size=w.heap.size+1):=Lib.hid (by simp);have HG:=Lib.hid hg;clear h hc;go_enter Tryzx.func109,Tryz.ntmps109;go_wp2_with fail
 refine (l01Below_any g A n c zs 6 _ h0 hn hc0 (by omega) (by omega)).mono ?_;rintro e w1 ⟨x,rfl,x0,x1,hc1,ho1⟩;have HH1:=Lib.hid (h0.only ho1 (Nat.le_refl _));have HB1:=Lib.hid (HB0.out.trans (ho1.below (Nat.le_refl _)));have HV1:=Lib.hid (HV0.out.only ho1 (by have:=HG.out; omega))
 have HS1:=Lib.hid (ho1.size.trans HS0.out);have HC1:=Lib.hid hc1;have HK0:Hid (KeepB g w.heap.size w (w.alloc (.cells #[.slice none 0 0] 26))):=Lib.hid (fun k hk _=>((Below.refl w.heap.size w).alloc (Nat.le_refl _) _).block k hk);have HK1:=Lib.hid (HK0.out.only ho1);clear h0 hc0 ho1 HB0 HV0 HS0 hc1;go_wp2_with fail
 refine (l06Shape_any x w1 x0 x1).mono ?_;rintro e w2 ⟨b,m,Z,rfl,hbg,hbr,hbl,hbo,hb2⟩;have HA2:Hid (ArSt w (w2.alloc (.cells #[.slice (some ⟨b,0,none⟩) m m] 26)) g A n c zs w2.heap.size b m m Z):=Lib.hid (by
  have h1:=HG.out;have h2:=HS1.out;have h3:=hb2.size;have hbb:=hb2.alloc (o := .cells #[.slice (some ⟨b,0,none⟩) m m] 26) h3;exact ⟨HV1.out.after hbb,rowF_new1S _ _ _,hbr.alloc _,⟨hbl,hbo,Nat.le_refl _⟩,⟨h1,by omega,by omega⟩,HC1.out.after hbb,HH1.out.below (hbb.mono (by omega)),HB1.out.trans (hbb.mono (by omega)),HK1.out.belowB hbb (by omega)⟩)
 obtain ⟨X,hX⟩:∃ X,w2.heap.size=X:=⟨_,rfl⟩;clear hbg hbr hbl hbo hb2 HH1 HB1 HV1 HS1 HC1;go_wp2_with fail
 refine (l01Below_any g A n c zs 5 _ HA2.out.code hn HA2.out.cur (by omega) (by omega)).mono ?_;rintro e w3 ⟨r,rfl,r0,r1,hc3,ho3⟩;have HA3:=Lib.hid (HA2.out.only ho3 hc3);rw [hX] at HA3;clear hc3 ho3 HA2;obtain ⟨q,rfl⟩:=Int.eq_ofNat_of_zero_le r0;go_wp2;go_loopw [4] (fun v4 wr=>∃ (k b m d:Nat) (Z:List Int),v4 = .int .i64 k∧k≤5∧Hid (ArSt w wr g A n c zs X b m d Z)) (fun v4 _=>(intOf v4).toNat)
 case atStart=>exact ⟨q,b,m,m,Z,rfl,by omega,HA3⟩
 case round =>
  clear HA3;obtain ⟨k,b,m,d,Z,rfl,hk5,HA⟩:=hrel;have bx:wr.cell? ⟨X,0,none⟩=some (.slice (some ⟨b,0,none⟩) m d):=HA.out.box.cell (i:=0) (by omega);have xf:=HA.out.box.frozen 0;have hm8:=(archB_out HA.out.ok.2.1).1;by_cases he:0<k
  ·have i1:(0:Int)<(k:Int):=by omega
   go_wp2_with fail
   refine (l06Copy_any b m d Z wr HA.out.row HA.out.ok.1 (by omega) (by omega)).mono ?_;rintro e w4 ⟨g2,d2,rfl,hg2,hd2,hr2,hb4⟩;have HR4:=Lib.hid (hr2.alloc (.cells #[.slice (some ⟨g2,0,none⟩) m d2] 26));have HY4:=Lib.hid (rowF_new1S w4 (.slice (some ⟨g2,0,none⟩) m d2) 26);have HA4:=Lib.hid (HA.out.after (hb4.alloc hb4.size (.cells #[.slice (some ⟨g2,0,none⟩) m d2] 26)));have HF4:Hid (w.heap.size<g2∧w.heap.size<w4.heap.size∧X ≠ w4.heap.size∧b ≠ g2∧X ≠ g2∧g2 ≠ w4.heap.size∧m≤d2):=Lib.hid (by
    have h1:=HA.out.below.size;have h2:=HA.out.box.lt;have h3:=hb4.size;have h4:=HA.out.row.lt;have h5:=hr2.lt;exact ⟨by omega,by omega,by omega,by omega,by omega,by omega,hd2⟩)
   obtain ⟨Y,hY⟩:∃ Y,w4.heap.size=Y:=⟨_,rfl⟩;rw [hY] at HY4 HF4;have y0:(w4.alloc (.cells #[.slice (some ⟨g2,0,none⟩) m d2] 26)).cell? ⟨Y,0,none⟩=some (.slice (some ⟨g2,0,none⟩) m d2):=HY4.out.cell (i:=0) (by omega);clear hg2 hd2 hr2 hb4 HA bx;go_wp2_with fail
   refine (l01Below_any g A n c zs (m:Int) _ HA4.out.code hn HA4.out.cur (by omega) (by omega)).mono ?_;rintro e w5 ⟨i,rfl,z0,z1,hc5,ho5⟩;have HA5:=Lib.hid (HA4.out.only ho5 hc5);have HY5:=Lib.hid (HY4.out.only ho5 (by have:=HA4.out.below.size; have:=HF4.out; omega))
   have HR5:=Lib.hid (HR4.out.only ho5 (by have:=HF4.out; omega))
   clear hc5 ho5 HA4 HY4 HR4 y0;obtain ⟨i,rfl⟩:=Int.eq_ofNat_of_zero_le z0;go_wp2_with fail
   refine (l01Below_any g A n c zs 3 _ HA5.out.code hn HA5.out.cur (by omega) (by omega)).mono ?_;rintro e w6 ⟨dx,rfl,dx0,dx1,hc6,ho6⟩;have HA6:=Lib.hid (HA5.out.only ho6 hc6);have HY6:=Lib.hid (HY5.out.only ho6 (by have:=HF4.out; omega))
   have HR6:=Lib.hid (HR5.out.only ho6 (by have:=HF4.out; omega))
   clear hc6 ho6 HA5 HY5 HR5;go_wp2_with fail
   refine (l01Below_any g A n c zs 3 _ HA6.out.code hn HA6.out.cur (by omega) (by omega)).mono ?_;rintro e w7 ⟨dy,rfl,dy0,dy1,hc7,ho7⟩;have HA7:=Lib.hid (HA6.out.only ho7 hc7);have HY7:=Lib.hid (HY6.out.only ho7 (by have:=HF4.out; omega))
   have HR7:=Lib.hid (HR6.out.only ho7 (by have:=HF4.out; omega))
   clear hc7 ho7 HA6 HY6 HR6;go_wp2_with fail
   refine (l01Once_any g A n c zs 2 _ HA7.out.code hn HA7.out.cur (by omega) (by omega)).mono ?_;rintro e w8 ⟨bb,rfl,hc8,ho8⟩;have HA8:=Lib.hid (HA7.out.only ho8 hc8);have HY8:=Lib.hid (HY7.out.only ho8 (by have:=HF4.out; omega))
   have HR8:=Lib.hid (HR7.out.only ho8 (by have:=HF4.out; omega))
   clear hc8 ho8 HA7 HY7 HR7;have y0:w8.cell? ⟨Y,0,none⟩=some (.slice (some ⟨g2,0,none⟩) m d2):=HY8.out.cell (i:=0) (by omega);have c0:w8.cell? ⟨g2,i*4,none⟩=some (.int .i64 (nth Z (i*4))):=HR8.out.cell (by omega);have c1:w8.cell? ⟨g2,i*4+1,none⟩=some (.int .i64 (nth Z (i*4+1))):=HR8.out.cell (by omega);have c2:w8.cell? ⟨g2,i*4+2,none⟩=some (.int .i64 (nth Z (i*4+2))):=HR8.out.cell (by omega);have c3:w8.cell? ⟨g2,i*4+3,none⟩=some (.int .i64 (nth Z (i*4+3))):=HR8.out.cell (by omega);have f0:=HR8.out.frozen (i*4);have f1:=HR8.out.frozen (i*4+1);have f2:=HR8.out.frozen (i*4+2);have f3:=HR8.out.frozen (i*4+3);have zl:=HR8.out.lt;have i2:(i:Int)<(m:Int):=by omega
   have i3:(0:Int)≤(i:Int):=by omega
   cases bb
   ·have HL9:Hid (((Z.set (i*4+2) (wrap64 (nth Z (i*4+2)+(dx - 1)))).set (i*4+2+1) (wrap64 (nth Z (i*4+3)+(dy - 1)))).length=m*4):=Lib.hid (by simp [HA8.out.ok.1])
    have HR9:Hid (RowF (((w8.setCell ⟨g2,i*4+2,none⟩ (.int .i64 (wrap64 (nth Z (i*4+2)+(dx - 1))))).setCell ⟨g2,i*4+2+1,none⟩ (.int .i64 (wrap64 (nth Z (i*4+3)+(dy - 1))))).drew) g2 45 (m*4) (ints ((Z.set (i*4+2) (wrap64 (nth Z (i*4+2)+(dx - 1)))).set (i*4+2+1) (wrap64 (nth Z (i*4+3)+(dy - 1)))))):=Lib.hid (rowF_put2 HR8.out HA8.out.ok.1 (by omega) _ _);have HA9:Hid (ArSt w (((w8.setCell ⟨g2,i*4+2,none⟩ (.int .i64 (wrap64 (nth Z (i*4+2)+(dx - 1))))).setCell ⟨g2,i*4+2+1,none⟩ (.int .i64 (wrap64 (nth Z (i*4+3)+(dy - 1))))).drew) g A n c zs X b m d Z):=Lib.hid ((((HA8.out.setOther (by exact HF4.out.1) (by exact HF4.out.2.2.2.2.1) (by exact HF4.out.2.2.2.1) _).setOther (by exact HF4.out.1) (by exact HF4.out.2.2.2.2.1) (by exact HF4.out.2.2.2.1) _)).drew);have HY9:Hid (RowF (((w8.setCell ⟨g2,i*4+2,none⟩ (.int .i64 (wrap64 (nth Z (i*4+2)+(dx - 1))))).setCell ⟨g2,i*4+2+1,none⟩ (.int .i64 (wrap64 (nth Z (i*4+3)+(dy - 1))))).drew) Y 26 1 (fun _ => .slice (some ⟨g2,0,none⟩) m d2)):=Lib.hid ((((HY8.out.set_other (by have:=HF4.out; simp; omega) _).set_other (by have:=HF4.out; simp; omega) _)).drew)
    go_wp2_with fail
    go_region
    clear y0 c0 c1 c2 c3 f0 f1 f2 f3 HR8 HA8 HY8;obtain ⟨W9,hW9⟩:∃ W9:World,((w8.setCell ⟨g2,i*4+2,none⟩ (.int .i64 (wrap64 (nth Z (i*4+2)+(dx - 1))))).setCell ⟨g2,i*4+2+1,none⟩ (.int .i64 (wrap64 (nth Z (i*4+3)+(dy - 1))))).drew=W9:=⟨_,rfl⟩;obtain ⟨Z9,hZ9⟩:∃ Z9:List Int,((Z.set (i*4+2) (wrap64 (nth Z (i*4+2)+(dx - 1)))).set (i*4+2+1) (wrap64 (nth Z (i*4+3)+(dy - 1))))=Z9:=⟨_,rfl⟩;rw [hW9] at HR9 HA9 HY9;rw [hZ9] at HR9 HL9;have y9:W9.cell? ⟨Y,0,none⟩=some (.slice (some ⟨g2,0,none⟩) m d2):=HY9.out.cell (i:=0) (by omega);go_wp2_with fail
    refine (sArchOk_any _ m _ Z9 W9 (HR9.out.recs HL9.out) (by omega)).mono ?_;rintro e w10 ⟨rfl,hb10⟩;have HA10:=Lib.hid (HA9.out.after hb10);have HR10:=Lib.hid (HR9.out.after hb10);have HY10:=Lib.hid (HY9.out.after hb10);have hk1:IntKind.i64.wrap ((k:Int) - 1)=((k - 1:Nat):Int):=by rw [IntWalk.i64_in _ (by omega)]; omega
    clear hb10 y9 HA9 HR9 HY9 hW9 hZ9;cases hB:archB Z9 m
    ·go_wp2
     go_roundw
     case rel=>exact ⟨k - 1,b,m,d,Z,by go_num,by omega,HA10⟩
     case measure=>simp [intOf]; omega
    ·have y10:w10.cell? ⟨Y,0,none⟩=some (.slice (some ⟨g2,0,none⟩) m d2):=HY10.out.cell (i:=0) (by omega)
     have x10:w10.cell? ⟨X,0,none⟩=some (.slice (some ⟨b,0,none⟩) m d):=HA10.out.box.cell (i:=0) (by omega);have xf10:=HA10.out.box.frozen 0;have HS10:=Lib.hid (HA10.out.swap (d':=d2) HR10.out ⟨HL9.out,hB,HF4.out.2.2.2.2.2.2⟩ ⟨HF4.out.1,HF4.out.2.2.2.2.1⟩);go_wp2;go_roundw
     case rel=>exact ⟨k - 1,g2,m,d2,Z9,by go_num,by omega,HS10⟩
     case measure=>simp [intOf]; omega
   ·have HL9:Hid (((Z.set (i*4) (wrap64 (nth Z (i*4)+(dx - 1)))).set (i*4+1) (wrap64 (nth Z (i*4+1)+(dy - 1)))).length=m*4):=Lib.hid (by simp [HA8.out.ok.1])
    have HR9:Hid (RowF (((w8.setCell ⟨g2,i*4,none⟩ (.int .i64 (wrap64 (nth Z (i*4)+(dx - 1))))).setCell ⟨g2,i*4+1,none⟩ (.int .i64 (wrap64 (nth Z (i*4+1)+(dy - 1))))).drew) g2 45 (m*4) (ints ((Z.set (i*4) (wrap64 (nth Z (i*4)+(dx - 1)))).set (i*4+1) (wrap64 (nth Z (i*4+1)+(dy - 1)))))):=Lib.hid (rowF_put2 HR8.out HA8.out.ok.1 (by omega) _ _);have HA9:Hid (ArSt w (((w8.setCell ⟨g2,i*4,none⟩ (.int .i64 (wrap64 (nth Z (i*4)+(dx - 1))))).setCell ⟨g2,i*4+1,none⟩ (.int .i64 (wrap64 (nth Z (i*4+1)+(dy - 1))))).drew) g A n c zs X b m d Z):=Lib.hid ((((HA8.out.setOther (by exact HF4.out.1) (by exact HF4.out.2.2.2.2.1) (by exact HF4.out.2.2.2.1) _).setOther (by exact HF4.out.1) (by exact HF4.out.2.2.2.2.1) (by exact HF4.out.2.2.2.1) _)).drew);have HY9:Hid (RowF (((w8.setCell ⟨g2,i*4,none⟩ (.int .i64 (wrap64 (nth Z (i*4)+(dx - 1))))).setCell ⟨g2,i*4+1,none⟩ (.int .i64 (wrap64 (nth Z (i*4+1)+(dy - 1))))).drew) Y 26 1 (fun _ => .slice (some ⟨g2,0,none⟩) m d2)):=Lib.hid ((((HY8.out.set_other (by have:=HF4.out; simp; omega) _).set_other (by have:=HF4.out; simp; omega) _)).drew)
    go_wp2_with fail
    go_region
    clear y0 c0 c1 c2 c3 f0 f1 f2 f3 HR8 HA8 HY8;obtain ⟨W9,hW9⟩:∃ W9:World,((w8.setCell ⟨g2,i*4,none⟩ (.int .i64 (wrap64 (nth Z (i*4)+(dx - 1))))).setCell ⟨g2,i*4+1,none⟩ (.int .i64 (wrap64 (nth Z (i*4+1)+(dy - 1))))).drew=W9:=⟨_,rfl⟩;obtain ⟨Z9,hZ9⟩:∃ Z9:List Int,((Z.set (i*4) (wrap64 (nth Z (i*4)+(dx - 1)))).set (i*4+1) (wrap64 (nth Z (i*4+1)+(dy - 1))))=Z9:=⟨_,rfl⟩;rw [hW9] at HR9 HA9 HY9;rw [hZ9] at HR9 HL9;have y9:W9.cell? ⟨Y,0,none⟩=some (.slice (some ⟨g2,0,none⟩) m d2):=HY9.out.cell (i:=0) (by omega);go_wp2_with fail
    refine (sArchOk_any _ m _ Z9 W9 (HR9.out.recs HL9.out) (by omega)).mono ?_;rintro e w10 ⟨rfl,hb10⟩;have HA10:=Lib.hid (HA9.out.after hb10);have HR10:=Lib.hid (HR9.out.after hb10);have HY10:=Lib.hid (HY9.out.after hb10);have hk1:IntKind.i64.wrap ((k:Int) - 1)=((k - 1:Nat):Int):=by rw [IntWalk.i64_in _ (by omega)]; omega
    clear hb10 y9 HA9 HR9 HY9 hW9 hZ9;cases hB:archB Z9 m
    ·go_wp2
     go_roundw
     case rel=>exact ⟨k - 1,b,m,d,Z,by go_num,by omega,HA10⟩
     case measure=>simp [intOf]; omega
    ·have y10:w10.cell? ⟨Y,0,none⟩=some (.slice (some ⟨g2,0,none⟩) m d2):=HY10.out.cell (i:=0) (by omega)
     have x10:w10.cell? ⟨X,0,none⟩=some (.slice (some ⟨b,0,none⟩) m d):=HA10.out.box.cell (i:=0) (by omega);have xf10:=HA10.out.box.frozen 0;have HS10:=Lib.hid (HA10.out.swap (d':=d2) HR10.out ⟨HL9.out,hB,HF4.out.2.2.2.2.2.2⟩ ⟨HF4.out.1,HF4.out.2.2.2.2.1⟩);go_wp2;go_roundw
     case rel=>exact ⟨k - 1,g2,m,d2,Z9,by go_num,by omega,HS10⟩
     case measure=>simp [intOf]; omega
  ·obtain rfl:k=0:=by omega
   have i1:¬ (0:Int)<((0:Nat):Int):=by omega
   have r0:wr.cell? ⟨w.heap.size,0,none⟩=some (.slice none 0 0):=HA.out.res.cell (i:=0) (by omega);have rf:=HA.out.res.frozen 0;have rl:=HA.out.res.lt;go_wp2;refine bodyPost_ret (v := .agg #[.slice (some ⟨b,0,none⟩) m d]) (by simp [results,Tryz.results109,go_sem, *]) rfl ?_;have hf:=HA.out.far;refine ⟨b,m,d,Z,rfl,hf.2.2,HA.out.ok.2.2,HA.out.row.set_other (by simp; omega) _,HA.out.ok.1,HA.out.ok.2.1,?_,HA.out.keep.set (by simp) _,HA.out.below.setCell (by simp; omega) _⟩
   obtain ⟨i,x,hi,hc⟩:=HA.out.cur;exact ⟨i,x,hi,RowF.set_other hc (by simp; omega) _⟩
end X
end Go.Proofs.YtbpnbhemdbgmjaaGreat
