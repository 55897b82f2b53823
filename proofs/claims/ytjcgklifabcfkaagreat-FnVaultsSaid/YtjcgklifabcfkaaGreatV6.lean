/-
  Texts that the law stands on, part 6.
-/
import Derived.Test.YtjcgklifabcfkaaGreatV1
import Derived.Test.YtjcgklifabcfkaaGreatV5
set_option maxRecDepth 100000
set_option linter.unusedVariables false
set_option linter.unusedSimpArgs false
namespace Go.Proofs.YtjcgklifabcfkaaGreat
namespace Rn
open Go.Conc
open Go.ConcN (ShN PermW RelBy WgLive PayAt Has AtR0 AtK1 AtD1 AtD2 AtD3 AtD4 RW CTag)
open Go.ConcR (KK WgAt stA smA rd wr mk Payload DC0)
variable [Payload]
def St0 (H:Ph):Bl:=fun b=>b<H.B0∧b ≠ H.Wg∧b ≠ H.C
def RoX (H:Ph) (x:Nat):Bl:=fun b=>(b<H.B0∧b ≠ H.Wg∧b ≠ H.C∧¬ H.SB b) ∨ b=x
structure RelyW (H:Ph) (ro:Bl) (i:Nat) (own:Bl) (w w1:World):Prop where
 stays:Stays (fun b=>own b ∨ ro b) w w1
 live:WgLive H.ty H.Wg w→WgLive H.ty H.Wg w1
 pay:PayAt H.C H.n w→PayAt H.C H.n w1
 cell:w1.cell? ⟨H.C,i,none⟩=w.cell? ⟨H.C,i,none⟩
theorem RelyW.refl (H:Ph) (ro:Bl) (i:Nat) (own:Bl) (w:World):RelyW H ro i own w w:=⟨.refl _ _,id,id,rfl⟩
theorem RelyW.trans (H:Ph) (ro:Bl) (i:Nat) (own:Bl) (a b c:World) (h:RelyW H ro i own a b) (k:RelyW H ro i own b c):RelyW H ro i own a c :=
 ⟨h.stays.trans k.stays,k.live ∘ h.live,k.pay ∘ h.pay,k.cell.trans h.cell⟩
theorem RelyW.rw {H:Ph} {ro:Bl} {i:Nat} {own:Bl} {w w1:World} (h:RelyW H ro i own w w1):RW H.ty H.Wg H.C H.n 0 i w w1:=⟨fun b hb=>absurd hb (by omega),h.live,h.pay,h.cell⟩
structure DidW (H:Ph) (ro:Bl) (i:Nat) (own:Bl) (w w':World) (es:Array Event):Prop where
 tape:w'.tape=w.tape
 os:w'.os=w.os
 output:w'.output=w.output
 size:w.heap.size≤w'.heap.size
 block:∀ b,b<w.heap.size→¬ own b→b ≠ H.C→w'.heap[b]?=w.heap[b]?
 pay:¬ own H.C→PayAt H.C H.n w→PayAt H.C H.n w'
 cells:¬ own H.C→H.C<w.heap.size→∀ k,k ≠ i→w'.cell? ⟨H.C,k,none⟩=w.cell? ⟨H.C,k,none⟩
 ev:∀ e ∈ es,EvOwn (Plus own w w') ro e ∨ (e.sync=false∧e.loc = .cell ⟨H.C,i,none⟩)
theorem DidW.of_did {H:Ph} {ro:Bl} {i:Nat} {own:Bl} {w w':World} {es:Array Event} (h:Did own ro w w' es):DidW H ro i own w w' es where
 tape:=h.tape
 os:=h.os
 output:=h.output
 size:=h.size
 block b hb ho _:=h.block b hb ho
 pay ho hp:=by
  obtain ⟨cs,h1,h2⟩:=hp;exact ⟨cs,by rw [h.block _ (Array.getElem?_eq_some_iff.1 h1).1 ho]; exact h1,h2⟩
 cells ho hc k _:=by simp only [World.cell?,h.block _ hc ho]
 ev e he := .inl (h.ev e he)
structure RelyS (H:Ph) (own:Bl) (w w1:World):Prop where
 stays:Stays (fun b=>own b ∨ St0 H b) w w1
 live:WgLive H.ty H.Wg w→WgLive H.ty H.Wg w1
omit [Payload] in
theorem RelyS.refl (H:Ph) (own:Bl) (w:World):RelyS H own w w:=⟨.refl _ _,id⟩
omit [Payload] in
theorem RelyS.trans (H:Ph) (own:Bl) (a b c:World) (h:RelyS H own a b) (k:RelyS H own b c):RelyS H own a c:=⟨h.stays.trans k.stays,k.live ∘ h.live⟩
def EvS (H:Ph) (own:Bl) (e:Event):Prop :=
 (∀ x,(MemAct.ofEvent e).touch?=some x→(ShN H.Wg x.loc∧x.kind ≠ .plain) ∨ ∃ b,lb x.loc=some b∧(own b ∨ (b<H.B0∧b ≠ H.Wg∧b ≠ H.C∧¬ H.SB b∧x.write=false))) ∧
 e.loc ≠ .mark .disable∧e.loc ≠ .mark .enable∧∀ a,e.loc ≠ .mark (.release a)
structure DidS (H:Ph) (own:Bl) (w w':World) (es:Array Event):Prop where
 tape:w'.tape=w.tape
 os:w'.os=w.os
 output:w'.output=w.output
 size:w.heap.size≤w'.heap.size
 block:∀ b,b<w.heap.size→¬ own b→w'.heap[b]?=w.heap[b]?
 ev:∀ e ∈ es,EvS H (Plus own w w') e
omit [Payload] in
theorem DidS.quiet (H:Ph) (own:Bl) (w:World):DidS H own w w #[]:=⟨rfl,rfl,rfl,Nat.le_refl _,fun _ _ _=>rfl,by simp⟩
section
variable (H : Ph)
def AtRel (i:Nat) (own:Bl) (g:Goroutine) (w:World):Prop:=∃ v,AtR0 H.P H.ty H.Wg H.C H.n 0 (i+1) v g w∧H.fin i own v w
inductive WS (ro:Bl) (i:Nat):Nat→Tree→Nat→Bl→Goroutine→World→Prop
 | way {T:Tree} {own:Bl} {g:Goroutine} {w:World}:WayT H.P false (RelyW H ro i) (DidW H ro i) (AtRel H i) T own g w→WS ro i 7 T 0 own g w
 | k1 {m:Nat} {own:Bl} {g:Goroutine} {w:World}:Goes H.P false (RW H.ty H.Wg H.C H.n 0 i) DC0 (AtK1 H.P H.ty H.Wg H.C H.n 0 (i+1)) m g w→WS ro i 6 (natT m) 0 own g w
 | d1 {m:Nat} {own:Bl} {g:Goroutine} {w:World}:Goes H.P false (RW H.ty H.Wg H.C H.n 0 i) DC0 (AtD1 H.P H.ty H.Wg H.C H.n 0 (i+1)) m g w→WS ro i 5 (natT m) 1 own g w
 | d2 {m:Nat} {own:Bl} {g:Goroutine} {w:World}:Goes H.P false (RW H.ty H.Wg H.C H.n 0 i) DC0 (AtD2 H.P H.ty H.Wg H.C H.n 0 (i+1)) m g w→WS ro i 4 (natT m) 1 own g w
 | d3 {m:Nat} {own:Bl} {g:Goroutine} {w:World}:Goes H.P false (RW H.ty H.Wg H.C H.n 0 i) DC0 (AtD3 H.P H.ty H.Wg H.C H.n 0 (i+1)) m g w→WS ro i 3 (natT m) 1 own g w
 | d4 {m:Nat} {own:Bl} {g:Goroutine} {w:World}:Goes H.P false (RW H.ty H.Wg H.C H.n 0 i) DC0 (AtD4 H.P H.ty H.Wg) m g w→WS ro i 2 (natT m) 1 own g w
 | quit {q d:Nat} {own:Bl} {g:Goroutine} {w:World}:QuitsD H.P q d g→WS ro i 1 (natT q) d own g w
end
section
variable {H : Ph} {ro : Bl} {i s d : Nat} {T : Tree} {own : Bl} {g : Goroutine} {w w1 : World}
theorem WS.rely (h:WS H ro i s T d own g w) (hr:RelyW H ro i own w w1):WS H ro i s T d own g w1:=by
 have tr:∀ a b c,RW H.ty H.Wg H.C H.n 0 i a b→RW H.ty H.Wg H.C H.n 0 i b c→RW H.ty H.Wg H.C H.n 0 i a c:=fun _ _ _ h1 h2=>h1.trans h2
 cases h with
 | way h=>exact .way (h.rely (RelyW.trans H ro i) hr)
 | k1 h=>exact .k1 (Goes.rely tr h hr.rw)
 | d1 h=>exact .d1 (Goes.rely tr h hr.rw)
 | d2 h=>exact .d2 (Goes.rely tr h hr.rw)
 | d3 h=>exact .d3 (Goes.rely tr h hr.rw)
 | d4 h=>exact .d4 (Goes.rely tr h hr.rw)
 | quit h=>exact .quit h
theorem WS.status (h:WS H ro i s T d own g w):(g.status = .running) ∨ (g.status = .finished∧s=1):=by
 cases h with
 | way h=>exact .inl (h.running (RelyW.refl H ro i) fun _ _ _ ⟨_,x,_⟩=>x.1)
 | k1 h=>exact .inl (Goes.running (fun _ _ x=>x.1) w (RW.refl w) h)
 | d1 h=>exact .inl (Goes.running (fun _ _ x=>x.1) w (RW.refl w) h)
 | d2 h=>exact .inl (Goes.running (fun _ _ x=>x.1) w (RW.refl w) h)
 | d3 h=>exact .inl (Goes.running (fun _ _ x=>x.1) w (RW.refl w) h)
 | d4 h=>exact .inl (Goes.running (fun _ _ x=>x.1) w (RW.refl w) h)
 | quit h=>exact h.status.imp id fun x=>⟨x,rfl⟩
theorem WS.woken (h:WS H ro i s T d own g w) (a a':Goroutine) (w':World):Go.Conc.woken H.P a a' w' g=g:=by
 unfold Go.Conc.woken;split
 ·exact again_running _ (h.status.imp id fun x=>x.1)
 ·rfl
end
section
variable (H : Ph)
def SW (K:Bl→Goroutine→World→Prop) (own:Bl) (g:Goroutine) (w:World):Prop:=WayG H.P true (RelyS H) (DidS H) K own g w
def Ev1 (es:Array Event) (K:Bl→Goroutine→World→Prop) (own:Bl) (g:Goroutine) (w:World):Prop :=
 g.status = .running∧∃ g',stepG H.P true g w = .go g' w es∧SW H K own g' w
def SA1 (K:Bl→Goroutine→World→Prop) (own:Bl) (g:Goroutine) (w:World):Prop :=
 g.status = .running∧∀ v:Nat,v<2147483647→WgAt H.ty H.Wg w (v*KK) 0 →
  ∃ g',stepG H.P true g w = .go g' (w.setCell (stA H.Wg) (.int .u64 ((v+1)*KK))) #[rd (stA H.Wg),wr (stA H.Wg)]∧SW H K own g' (w.setCell (stA H.Wg) (.int .u64 ((v+1)*KK)))
def SGo (j:Nat) (N:Bl→Goroutine→World→Prop) (own:Bl) (g:Goroutine) (w:World):Prop :=
 g.status = .running∧∃ g' child x,stepG H.P true g w = .spawn g' child w #[]∧own x∧(PayAt H.C H.n w→WgLive H.ty H.Wg w→WayG H.P false (RelyW H (RoX H x) j) (DidW H (RoX H x) j) (AtRel H j) (fun _=>False) child w)∧N (fun b=>own b∧b ≠ x) g' w
section
variable (AnchW Out : Bl → Goroutine → World → Prop)
def SAcq (own:Bl) (g:Goroutine) (w:World):Prop:=g.status = .running∧∃ g',stepG H.P true g w = .go g' w #[mk (.acquire (stA H.Wg))]∧∀ w1,RelyS H own w w1→Out own g' w1
def SKe:Bl→Goroutine→World→Prop:=Ev1 H #[mk .enable] (SAcq H Out)
def SW4 (own:Bl) (g:Goroutine) (w:World):Prop :=
 g.status = .running∧(WgAt H.ty H.Wg w 0 0→∃ g',stepG H.P true g w = .go g' w #[rd (stA H.Wg)]∧SW H (SKe H Out) own g' w)
def SW3 (own:Bl) (g:Goroutine) (w:World):Prop :=
 g.status = .running∧g.offers=none ∧
  ((∃ st,WgAt H.ty H.Wg w st 0)→stepG H.P true g w = .go { g with status := .blocked } w #[]) ∧
  (WgAt H.ty H.Wg w 0 1→∃ g',stepG H.P true g w = .go g' (w.setCell (smA H.Wg) (.int .u32 0)) (semEvents (smA H.Wg))∧SW H (SW4 H Out) own g' (w.setCell (smA H.Wg) (.int .u32 0)))
def SW2 (vs:Nat) (own:Bl) (g:Goroutine) (w:World):Prop :=
 g.status = .running∧∀ v:Nat,v<2147483648→WgAt H.ty H.Wg w (v*KK) 0 →
  (v=vs→∃ g',stepG H.P true g w = .go g' (w.setCell (stA H.Wg) (.int .u64 (v*KK+1))) #[rd (stA H.Wg),wr (stA H.Wg)]∧SW H (SW3 H Out) own g' (w.setCell (stA H.Wg) (.int .u64 (v*KK+1)))) ∧
  (v ≠ vs→∃ g',stepG H.P true g w = .go g' w #[rd (stA H.Wg)]∧SW H AnchW own g' w)
def SW1 (own:Bl) (g:Goroutine) (w:World):Prop :=
 g.status = .running∧∀ v:Nat,v<2147483648→WgAt H.ty H.Wg w (v*KK) 0→∃ g',stepG H.P true g w = .go g' w #[rd (stA H.Wg)] ∧
  (v=0→SW H (SKe H Out) own g' w)∧(v ≠ 0→SW H (SW2 H AnchW Out v) own g' w)
def SKd:Bl→Goroutine→World→Prop:=Ev1 H #[mk .disable] AnchW
def Spawns:Nat→Bl→Goroutine→World→Prop
 | 0,own,g,w=>SW H (SKd H AnchW) own g w
 | r+1,own,g,w=>SW H (Ev1 H #[mk .disable] (SA1 H (Ev1 H #[mk .enable] (SGo H (H.n - (r+1)) (Spawns r))))) own g w
abbrev ST (K:Bl→Goroutine→World→Prop) (T:Tree) (own:Bl) (g:Goroutine) (w:World):Prop:=WayT H.P true (RelyS H) (DidS H) K T own g w
inductive CS:CTag→Nat→Tree→Nat→Bl→Goroutine→World→Prop
 | skd {r:Nat} {T:Tree} {own:Bl} {g:Goroutine} {w:World}:r<H.n→ST H (Ev1 H #[mk .disable] (SA1 H (Ev1 H #[mk .enable] (SGo H (H.n - (r+1)) (Spawns H AnchW r))))) T own g w→CS (.sp r 5) (H.n - (r+1)) T 0 own g w
 | sa1 {r:Nat} {T:Tree} {own:Bl} {g:Goroutine} {w:World}:r<H.n→ST H (SA1 H (Ev1 H #[mk .enable] (SGo H (H.n - (r+1)) (Spawns H AnchW r)))) T own g w→CS (.sp r 4) (H.n - (r+1)) T 1 own g w
 | ske {r:Nat} {T:Tree} {own:Bl} {g:Goroutine} {w:World}:r<H.n→ST H (Ev1 H #[mk .enable] (SGo H (H.n - (r+1)) (Spawns H AnchW r))) T own g w→CS (.sp r 3) (H.n - (r+1)) T 1 own g w
 | sgo {r:Nat} {T:Tree} {own:Bl} {g:Goroutine} {w:World}:r<H.n→ST H (SGo H (H.n - (r+1)) (Spawns H AnchW r)) T own g w→CS (.sp r 2) (H.n - (r+1)) T 0 own g w
 | kd {T:Tree} {own:Bl} {g:Goroutine} {w:World}:ST H (SKd H AnchW) T own g w→CS .kd H.n T 0 own g w
 | anch {T:Tree} {own:Bl} {g:Goroutine} {w:World}:ST H AnchW T own g w→CS .anch H.n T 1 own g w
 | w1 {T:Tree} {own:Bl} {g:Goroutine} {w:World}:ST H (SW1 H AnchW Out) T own g w→CS .w1 H.n T 1 own g w
 | w2 {vs:Nat} {T:Tree} {own:Bl} {g:Goroutine} {w:World}:ST H (SW2 H AnchW Out vs) T own g w→CS (.w2 vs) H.n T 1 own g w
 | w3 {T:Tree} {own:Bl} {g:Goroutine} {w:World}:ST H (SW3 H Out) T own g w→CS .w3 H.n T 1 own g w
 | blk {T:Tree} {own:Bl} {g:Goroutine} {w:World}:(∀ w1,RelyS H own w w1→SW3 H Out own g w1)→CS .blk H.n T 1 own { g with status := .blocked } w
 | w4 {T:Tree} {own:Bl} {g:Goroutine} {w:World}:ST H (SW4 H Out) T own g w→CS .w4 H.n T 1 own g w
 | ke {T:Tree} {own:Bl} {g:Goroutine} {w:World}:ST H (SKe H Out) T own g w→CS .ke H.n T 1 own g w
 | acq {T:Tree} {own:Bl} {g:Goroutine} {w:World}:ST H (SAcq H Out) T own g w→CS .acq H.n T 0 own g w
 | ret {T:Tree} {own:Bl} {g:Goroutine} {w:World}:(∀ w1,RelyS H own w w1→Out own g w1)→CS .ret H.n T 0 own g w
end
end
section
variable {H : Ph} {AnchW Out : Bl → Goroutine → World → Prop} {tag : CTag} {j d : Nat} {T : Tree} {own : Bl} {a : Goroutine} {w w1 : World}
omit [Payload] in
theorem SW3.running {own:Bl} {g:Goroutine} {w:World} (h:SW3 H Out own g w):g.status = .running:=h.1
theorem CS.rely (h:CS H AnchW Out tag j T d own a w) (hr:RelyS H own w w1):CS H AnchW Out tag j T d own a w1:=by
 have tr:=RelyS.trans H;cases h with
 | skd hn h=>exact .skd hn (h.rely tr hr)
 | sa1 hn h=>exact .sa1 hn (h.rely tr hr)
 | ske hn h=>exact .ske hn (h.rely tr hr)
 | sgo hn h=>exact .sgo hn (h.rely tr hr)
 | kd h=>exact .kd (h.rely tr hr)
 | anch h=>exact .anch (h.rely tr hr)
 | w1 h=>exact .w1 (h.rely tr hr)
 | w2 h=>exact .w2 (h.rely tr hr)
 | w3 h=>exact .w3 (h.rely tr hr)
 | blk h=>exact .blk fun w2 h2=>h w2 (hr.trans _ _ _ _ _ h2)
 | w4 h=>exact .w4 (h.rely tr hr)
 | ke h=>exact .ke (h.rely tr hr)
 | acq h=>exact .acq (h.rely tr hr)
 | ret h=>exact .ret fun w2 h2=>h w2 (hr.trans _ _ _ _ _ h2)
theorem CS.status (hA:∀ o g w,AnchW o g w→g.status = .running) (hO:∀ o g w,Out o g w→g.status = .running) (h:CS H AnchW Out tag j T d own a w):(a.status = .running∧tag ≠ .blk) ∨ (a.status = .blocked∧tag = .blk):=by
 have rf:=RelyS.refl H;cases h with
 | skd _ h=>exact .inl ⟨h.running rf fun _ _ _ x=>x.1,by simp⟩
 | sa1 _ h=>exact .inl ⟨h.running rf fun _ _ _ x=>x.1,by simp⟩
 | ske _ h=>exact .inl ⟨h.running rf fun _ _ _ x=>x.1,by simp⟩
 | sgo _ h=>exact .inl ⟨h.running rf fun _ _ _ x=>x.1,by simp⟩
 | kd h=>exact .inl ⟨h.running rf fun _ _ _ x=>x.1,by simp⟩
 | anch h=>exact .inl ⟨h.running rf hA,by simp⟩
 | w1 h=>exact .inl ⟨h.running rf fun _ _ _ x=>x.1,by simp⟩
 | w2 h=>exact .inl ⟨h.running rf fun _ _ _ x=>x.1,by simp⟩
 | w3 h=>exact .inl ⟨h.running rf fun _ _ _ x=>x.1,by simp⟩
 | blk h=>exact .inr ⟨rfl,rfl⟩
 | w4 h=>exact .inl ⟨h.running rf fun _ _ _ x=>x.1,by simp⟩
 | ke h=>exact .inl ⟨h.running rf fun _ _ _ x=>x.1,by simp⟩
 | acq h=>exact .inl ⟨h.running rf fun _ _ _ x=>x.1,by simp⟩
 | ret h=>exact .inl ⟨hO _ _ _ (h w (rf _ _)),by simp⟩
theorem CS.wokenBy (hA:∀ o g w,AnchW o g w→g.status = .running) (hO:∀ o g w,Out o g w→g.status = .running) (h:CS H AnchW Out tag j T d own a w) (hr:RelyS H own w w1) (g g':Goroutine) :
  ∃ tag' T',CS H AnchW Out tag' j T' d own (woken H.P g g' w1 a) w1∧(tag'=tag ∨ (tag = .blk∧tag' = .w3))∧(mayWake H.P g=true→g'.status = .running→tag' ≠ .blk):=by
 have h':=h.rely hr;unfold Go.Conc.woken;split
 ·rcases h'.status hA hO with ⟨hs,hne⟩ | ⟨_,rfl⟩
  ·exact ⟨tag,T,by rw [again_running _ (.inl hs)]; exact h',.inl rfl,fun _ _=>hne⟩
  ·cases h' with
   | blk hb =>
    rename_i g0
    have h3:=hb w1 (RelyS.refl H _ _);exact ⟨.w3,.leaf,by rw [Go.ConcR.again_blocked h3.1 h3.2.1]; exact .w3 (.stop hb),.inr ⟨rfl,rfl⟩,fun _ _=>by simp⟩
 ·rename_i hc
  exact ⟨tag,T,h',.inl rfl,fun h1 h2=>absurd (by simp [h1,h2]) hc⟩
end
end Rn
namespace Rn
open Go.Conc
open Go.ConcN (ShN PermW RelBy WgLive PayAt Has AtR0 AtK1 AtD1 AtD2 AtD3 AtD4 RW CTag WD upd upd_same upd_ne sumTo sumTo_upd cnt Vc Ssum phi phi_retag phi_mono)
open Go.ConcR (KK WgAt stA smA rd wr mk Payload DC0 g_of_ofEvents)
variable [Payload]
structure Chg (H:Ph) (mine:Bl) (ci:Nat→Prop) (w w':World):Prop where
 tape:w'.tape=w.tape
 os:w'.os=w.os
 output:w'.output=w.output
 size:w.heap.size≤w'.heap.size
 block:∀ b,b<w.heap.size→¬ mine b→b ≠ H.Wg→b ≠ H.C→w'.heap[b]?=w.heap[b]?
 live:WgLive H.ty H.Wg w'
 pay:PayAt H.C H.n w'
 cells:∀ k,¬ ci k→w'.cell? ⟨H.C,k,none⟩=w.cell? ⟨H.C,k,none⟩
section
variable {H : Ph} {mine : Bl} {ci : Nat → Prop} {w w' : World}
theorem Chg.relyW (h:Chg H mine ci w w') {ro own:Bl} {i:Nat} (hk:∀ b,own b ∨ ro b→¬ mine b∧b ≠ H.Wg∧b ≠ H.C) (hi:¬ ci i):RelyW H ro i own w w' :=
 ⟨⟨h.tape,h.os,h.output,h.size,fun b hb x=>h.block b hb (hk b x).1 (hk b x).2.1 (hk b x).2.2⟩,fun _=>h.live,fun _=>h.pay,h.cells i hi⟩
theorem Chg.relyS (h:Chg H mine ci w w') {own:Bl} (hk:∀ b,own b ∨ St0 H b→¬ mine b∧b ≠ H.Wg∧b ≠ H.C):RelyS H own w w' :=
 ⟨⟨h.tape,h.os,h.output,h.size,fun b hb x=>h.block b hb (hk b x).1 (hk b x).2.1 (hk b x).2.2⟩,fun _=>h.live⟩
end
def AcqS (H:Ph) (j:Nat) (t:Trace):Prop :=
 ∃ q,t.act? q=some (.mark (.acquire (stA H.Wg)))∧t.g? q=some 0∧t.heard q∧∀ i,i<j→∃ r,RelBy (stA H.Wg) t (H.s+i) r∧r<q
omit [Payload] in
theorem AcqS.app {H:Ph} {j:Nat} {t u:Trace} (h:AcqS H j t) (hu:∀ i r,i<j→RelBy (stA H.Wg) t (H.s+i) r→RelBy (stA H.Wg) (t ++ u) (H.s+i) r):AcqS H j (t ++ u):=by
 obtain ⟨q,h1,h2,h3,h4⟩:=h
 have hq:=lt_of_act? h1
 exact ⟨q,by rw [act?_old hq]; exact h1,by rw [g?_old hq]; exact h2,(heard_old hq).2 h3,fun i hi=>let ⟨r,hr,hrq⟩:=h4 i hi; ⟨r,hu i r hi hr,hrq⟩⟩
def Seen (B:Nat) (t:Trace):Prop:=∀ op ∈ t,∀ a,op.act.touch?=some a→∀ b,lb a.loc=some b→b<B
def NoRel (t:Trace):Prop:=∀ op ∈ t,∀ a,op.act ≠ .mark (.release a)
omit [Payload] in
theorem Seen.app {B B':Nat} {t u:Trace} (h:Seen B t) (hB:B≤B') (hu:Seen B' u):Seen B' (t ++ u):=fun op hop a ha b hb =>
 (Array.mem_append.1 hop).elim (fun x=>Nat.lt_of_lt_of_le (h op x a ha b hb) hB) fun x=>hu op x a ha b hb
omit [Payload] in
theorem NoRel.app {t u:Trace} (h:NoRel t) (hu:NoRel u):NoRel (t ++ u):=fun op hop=>(Array.mem_append.1 hop).elim (h op) (hu op)
structure EvB (B:Nat) (e:Event):Prop where
 low:∀ x,(MemAct.ofEvent e).touch?=some x→∀ b,lb x.loc=some b→b<B
 norel:∀ a,e.loc ≠ .mark (.release a)
omit [Payload] in
theorem act_rel {e:Event} {a:Addr} (h:MemAct.ofEvent e = .mark (.release a)):e.loc = .mark (.release a):=by
 obtain ⟨loc,w,sy⟩:=e
 cases loc with
 | mark m=>cases m <;> simp_all [MemAct.ofEvent]
 | obj c=>cases w <;> cases sy <;> simp_all [MemAct.ofEvent]
 | _=>simp_all [MemAct.ofEvent]
omit [Payload] in
theorem seen_ofEvents {B g:Nat} {fn:FuncId} {pos:String} {es:Array Event} (h:∀ e ∈ es,EvB B e):Seen B (MemOp.ofEvents g fn pos es)∧NoRel (MemOp.ofEvents g fn pos es):=by
 constructor
 ·intro op hop a ha
  obtain ⟨e,he,rfl⟩:=Go.Conc.mem_ofEvents hop
  exact (h e he).low a ha
 ·intro op hop a
  obtain ⟨e,he,rfl⟩:=Go.Conc.mem_ofEvents hop
  exact fun x=>(h e he).norel a (act_rel x)
section
variable (H : Ph) (AnchW Out : Bl → Goroutine → World → Prop) (W0 : World)
structure PInv (j:Nat) (gs:Array Goroutine) (w:World) (t:Trace) (D:Nat→WD) (F:Nat→Tree) (tag:CTag) (d0:Nat) (ow X:Nat→Nat) (O:Nat→Bl) (O0:Bl) (a:Goroutine) (st sm:Int):Prop where
 size:gs.size=H.s+j
 a0:gs[0]?=some a
 cs:CS H AnchW Out tag j (F 0) d0 O0 a w
 old:∀ k,0<k→k<H.s→∀ g,gs[k]?=some g→∃ q,F k=natT q∧QuitsD H.P q (Deaf t k) g
 wk:∀ i,i<j→∃ g,gs[H.s+i]?=some g∧WS H (RoX H (X i)) i (D i).stage (F (H.s+i)) (D i).deaf (O i) g w
 ti:TI H ow X j t
 xok:XOk H ow X j
 xlt:∀ i,i<j→X i<w.heap.size
 olt:∀ i,i<j→∀ b,O i b→H.B0≤b∧b<w.heap.size∧ow b=H.s+i
 o0:∀ b,O0 b→H.B0≤b∧b<w.heap.size∧ow b=0∧∀ i,i<j→b ≠ X i
 seen:Seen w.heap.size t
 norel:NoRel t
 deaf0:Deaf t 0=d0
 deafW:∀ i,i<j→Deaf t (H.s+i)=(D i).deaf
 above:∀ k,H.s+j≤k→Deaf t k=0
 rel:∀ i,i<j→(D i).stage≤6→∃ r,RelBy (stA H.Wg) t (H.s+i) r
 has:∀ i,i<j→(D i).stage≤6→∃ v,Has H.C i v w∧H.fin i (O i) v w
 pay:PayAt H.C H.n w
 wg:WgAt H.ty H.Wg w st sm
 mode:Go.ConcN.Mode j D tag st sm
 acq:tag = .ret→AcqS H j t
 b0:H.B0≤w.heap.size
 fresh:∀ b,w.heap.size≤b→ow b=0
 base:Stays (St0 H) W0 w
abbrev Mu:=Nat × (Nat→Tree) × Nat
def MLt:Mu→Mu→Prop:=Prod.Lex (· < ·) (Prod.Lex (FL (H.s+H.n)) (· < ·))
omit [Payload] in
theorem MLt.wf:WellFounded (MLt H):=(Prod.lex Nat.lt_wfRel (Prod.lex ⟨_,FL.wf (H.s+H.n)⟩ Nat.lt_wfRel)).wf
def fl:CTag→Nat
 | .w3=>1
 | _=>0
def Inv (μ:Mu) (m:Machine) (t:Trace):Prop :=
 ∃ gs w sl j D F tag d0 ow X O O0 a st sm,m=crowd gs w sl∧PInv H AnchW Out W0 j gs w t D F tag d0 ow X O O0 a st sm∧μ=(phi H.n (Vc j D) tag+Ssum j D,F,fl tag)
end
structure FinOk (H:Ph):Prop where
 stays:∀ i own own' v w w1,H.fin i own v w→Stays own w w1→(∀ b,own b→own' b)→H.fin i own' v w1
 lt:∀ i own v w,H.fin i own v w→True
section
variable {H : Ph} {AnchW Out : Bl → Goroutine → World → Prop} {W0 : World}
 {j : Nat} {gs : Array Goroutine} {w w' : World} {sl : Option (Nat × Nat)} {t : Trace} {D : Nat → WD} {F : Nat → Tree} {tag : CTag} {d0 : Nat} {ow X : Nat → Nat} {O : Nat → Bl} {O0 : Bl} {a : Goroutine} {st sm : Int}
theorem CS.bound {T:Tree} (h:CS H AnchW Out tag j T d0 O0 a w):j+Go.ConcN.pend tag≤H.n:=by
 cases h <;> simp only [Go.ConcN.pend] <;> (try simp) <;> omega
omit [Payload] in
theorem get_ms (f:Goroutine→Goroutine) (a:Nat) (x:Goroutine) (b:Nat) (hb:a ≠ b):((gs.map f).setIfInBounds a x)[b]?=(gs[b]?).map f:=by
 rw [Array.getElem?_setIfInBounds_ne hb,Array.getElem?_map]
omit [Payload] in
theorem get_ms_same (f:Goroutine→Goroutine) (a:Nat) (x:Goroutine) (ha:a<gs.size):((gs.map f).setIfInBounds a x)[a]?=some x:=by
 simp [ha]
omit [Payload] in
theorem relApp {A:Addr} {t:Trace} {k r g:Nat} {fn:FuncId} {pos:String} {es:Array Event} (h:RelBy A t k r) (hg:g ≠ k):RelBy A (t ++ MemOp.ofEvents g fn pos es) k r:=h.appOther g_of_ofEvents hg
theorem workerMove (G : Geo H) (fo : FinOk H) (hA : ∀ o g w, AnchW o g w → g.status = .running) (hO : ∀ o g w, Out o g w → g.status = .running)
    (h : PInv H AnchW Out W0 j gs w t D F tag d0 ow X O O0 a st sm)
    {i : Nat} (hi : i < j) {g g' : Goroutine} {es : Array Event} {s' dd' : Nat} {T' : Tree} {st' sm' : Int} (hg : gs[H.s + i]? = some g) (hgo : stepG H.P false g w = .go g' w' es)
    (hc : Chg H (O i) (· = i) w w')
    (hs' : WS H (RoX H (X i)) i s' T' dd' (Plus (O i) w w') g' w')
    (hok : ∀ op ∈ MemOp.ofEvents (H.s + i) g.frame.fn g.frame.place es, OkW H (fun b => if w.heap.size ≤ b ∧ b < w'.heap.size then H.s + i else ow b) X i op) (hev : ∀ e ∈ es, EvB w'.heap.size e)
    (hdeaf : deafBehind (D i).deaf es = dd')
    (hrel : s' ≤ 6 → ∃ r, RelBy (stA H.Wg) (t ++ MemOp.ofEvents (H.s + i) g.frame.fn g.frame.place es) (H.s + i) r)
    (hhas : s' ≤ 6 → ∃ v, Has H.C i v w' ∧ H.fin i (Plus (O i) w w') v w') (hwg : WgAt H.ty H.Wg w' st' sm')
    (hmode : ∀ tag', (tag' = tag ∨ (tag = .blk ∧ tag' = .w3)) → (mayWake H.P g = true → g'.status = .running → tag' ≠ .blk) → Go.ConcN.Mode j (upd D i ⟨s', 0, dd'⟩) tag' st' sm')
    (hacq : tag = .ret → AcqS H j (t ++ MemOp.ofEvents (H.s + i) g.frame.fn g.frame.place es))
    (hlt : (s' < (D i).stage ∧ cnt ⟨s', 0, dd'⟩ ≤ cnt (D i)) ∨ (s' = (D i).stage ∧ TLt T' (F (H.s + i)))) :
    ∃ m₁ ops μ', runT H.P (crowd gs w sl) (H.s + i) = (.next m₁, ops) ∧ MLt H μ' (phi H.n (Vc j D) tag + Ssum j D, F, fl tag) ∧ Inv H AnchW Out W0 μ' m₁ (t ++ ops) := by
  have s1 := G.s1;have hjn : j ≤ H.n := by have := h.cs.bound; omega
  have hmine : ∀ b, O i b → H.B0 ≤ b ∧ b < w.heap.size ∧ ow b = H.s + i := h.olt i hi;have kS : ∀ b, O0 b ∨ St0 H b → ¬ O i b ∧ b ≠ H.Wg ∧ b ≠ H.C := by
    rintro b (hb | ⟨h1, h2, h3⟩)
    · obtain ⟨h1, _, h3, _⟩ := h.o0 b hb
      refine ⟨fun k => by have := (hmine b k).2.2; omega, ?_, ?_⟩
      · rintro rfl; have := G.wg; omega
      · rintro rfl; have := G.c; omega
    · exact ⟨fun k => by have := (hmine b k).1; omega, h2, h3⟩
  have kW : ∀ i', i' < j → i' ≠ i → ∀ b, O i' b ∨ RoX H (X i') b → ¬ O i b ∧ b ≠ H.Wg ∧ b ≠ H.C := by
    rintro i' hi' hne b (hb | ⟨h1, h2, h3, _⟩ | rfl)
    · obtain ⟨h1, _, h3⟩ := h.olt i' hi' b hb
      refine ⟨fun k => by have := (hmine b k).2.2; omega, ?_, ?_⟩
      · rintro rfl; have := G.wg; omega
      · rintro rfl; have := G.c; omega
    · exact ⟨fun k => by have := (hmine b k).1; omega, h2, h3⟩
    · have h1 := h.xok.ge i' hi'
      have h2 := h.xok.own0 i' hi';refine ⟨fun k => by have := (hmine _ k).2.2; omega, ?_, ?_⟩
      · intro e; have := G.wg; omega
      · intro e; have := G.c; omega
  have rS : RelyS H O0 w w' := hc.relyS kS;obtain ⟨tag', T0', hcs', htag, hwk⟩ := h.cs.wokenBy hA hO rS g g';have hrun := runT_crowd_go (P := H.P) (sl := sl) (i := H.s + i) hg (by rw [show (H.s + i == 0) = false by simp; omega]; exact hgo);have e1 := sumTo_upd D (⟨s', 0, dd'⟩ : WD) cnt hi;have e2 := sumTo_upd D (⟨s', 0, dd'⟩ : WD) WD.stage hi;have hsz := hc.size;obtain ⟨sn, nrl⟩ := seen_ofEvents (g := H.s + i) (fn := g.frame.fn) (pos := g.frame.place) hev;have hother : ∀ k, k ≠ H.s + i → Deaf (t ++ MemOp.ofEvents (H.s + i) g.frame.fn g.frame.place es) k = Deaf t k := fun k hk => Deaf_other t (Ne.symm hk) _ g_of_ofEvents
  have hx' : XOk H (fun b => if w.heap.size ≤ b ∧ b < w'.heap.size then H.s + i else ow b) X j := ⟨h.xok.ge, fun i' hi' => by
    have := h.xlt i' hi';show (if _ then _ else _) = 0
    rw [if_neg (by omega)]; exact h.xok.own0 i' hi'⟩
  have hti : TI H (fun b => if w.heap.size ≤ b ∧ b < w'.heap.size then H.s + i else ow b) X j (t ++ MemOp.ofEvents (H.s + i) g.frame.fn g.frame.place es) := by
    refine (h.ti.grow' h.seen fun b hb => ?_).appW G hx' hi hok;show (if _ then _ else _) = _
    rw [if_neg (by omega)]
  refine ⟨_, _, (phi H.n (Vc j (upd D i ⟨s', 0, dd'⟩)) tag' + Ssum j (upd D i ⟨s', 0, dd'⟩), upd (upd F (H.s + i) T') 0 T0', fl tag'), hrun, ?_, _, w', sl, j, upd D i ⟨s', 0, dd'⟩, upd (upd F (H.s + i) T') 0 T0', tag', d0, _, X, upd O i (Plus (O i) w w'), O0, woken H.P g g' w' a, st', sm', rfl,
    { size := by simp [h.size]
      a0 := by rw [get_ms _ _ _ _ (by omega), h.a0]; rfl
      cs := by rw [upd_same]; exact hcs'
      old := fun k hk hks x hx => ?_
      wk := fun i' hi' => ?_
      ti := hti
      xok := hx'
      xlt := fun i' hi' => Nat.lt_of_lt_of_le (h.xlt i' hi') hsz
      olt := fun i' hi' b hb => ?_
      o0 := fun b hb => ?_
      seen := h.seen.app hsz sn
      norel := h.norel.app nrl
      deaf0 := by rw [hother 0 (by omega), h.deaf0]
      deafW := fun i' hi' => ?_
      above := fun k hk => by rw [hother k (by omega), h.above k hk]
      rel := fun i' hi' hst => ?_
      has := fun i' hi' hst => ?_
      pay := hc.pay
      wg := hwg
      mode := hmode tag' htag hwk
      acq := fun e => hacq (by rcases htag with rfl | ⟨_, rfl⟩; exact e; cases e)
      b0 := Nat.le_trans h.b0 hsz
      fresh := fun b hb => by
        show (if _ then _ else _) = _
        rw [if_neg (by omega)]; exact h.fresh b (by omega)
      base := h.base.trans ⟨hc.tape, hc.os, hc.output, hsz, fun b hb k => hc.block b hb (kS b (.inr k)).1 k.2.1 k.2.2⟩ }, rfl⟩
  · rw [phi_retag H.n _ htag]
    simp only [Vc, Ssum] at *
    rcases hlt with ⟨h1, h2⟩ | ⟨h1, h2⟩
    · refine Prod.Lex.left _ _ ?_
      have := phi_mono H.n (v' := sumTo j fun a => cnt (upd D i ⟨s', 0, dd'⟩ a)) (v := sumTo j fun a => cnt (D a)) (by omega) tag;omega
    · have ec : cnt (⟨s', 0, dd'⟩ : WD) = cnt (D i) := by simp only [cnt, h1]
      have ev : (sumTo j fun a => cnt (upd D i ⟨s', 0, dd'⟩ a)) = sumTo j fun a => cnt (D a) := by omega
      have es' : (sumTo j fun a => (upd D i ⟨s', 0, dd'⟩ a).stage) = sumTo j fun a => (D a).stage := by omega
      rw [ev, es'];refine Prod.Lex.right _ (Prod.Lex.left _ _ <| FL.at (k := H.s + i) (by omega) ?_ fun m h3 h4 => ?_)
      · rw [upd_ne _ _ (by omega), upd_same]; exact h2
      · rw [upd_ne _ _ (by omega), upd_ne _ _ (by omega)]
  · rw [get_ms _ _ _ _ (by omega)] at hx
    obtain ⟨y, hy, rfl⟩ := Option.map_eq_some_iff.1 hx;obtain ⟨q, hq1, hq2⟩ := h.old k hk hks y hy;refine ⟨q, by rw [upd_ne _ _ (by omega), upd_ne _ _ (by omega)]; exact hq1, ?_⟩;rw [woken_quitsD hq2, hother k (by omega)];exact hq2
  · by_cases e : i' = i
    · subst e
      exact ⟨g', get_ms_same _ _ _ (by rw [h.size]; omega), by rw [upd_same, upd_same, upd_ne _ _ (by omega), upd_same]; exact hs'⟩
    · obtain ⟨x, hx, hsx⟩ := h.wk i' hi'
      refine ⟨x, by rw [get_ms _ _ _ _ (by omega), hx, Option.map_some, hsx.woken], ?_⟩;rw [upd_ne D _ e, upd_ne O _ e, upd_ne _ _ (by omega), upd_ne _ _ (by omega)];exact hsx.rely (hc.relyW (kW i' hi' e) e)
  · by_cases e : i' = i
    · subst e
      rw [upd_same] at hb;rcases hb with hb | ⟨h1, h2⟩
      · obtain ⟨h1, h2, h3⟩ := hmine b hb
        refine ⟨h1, by omega, ?_⟩;show (if _ then _ else _) = _
        rw [if_neg (by omega)]; exact h3
      · refine ⟨by have := h.b0; omega, h2, ?_⟩
        show (if _ then _ else _) = _
        rw [if_pos ⟨h1, h2⟩]
    · rw [upd_ne O _ e] at hb
      obtain ⟨h1, h2, h3⟩ := h.olt i' hi' b hb;refine ⟨h1, by omega, ?_⟩;show (if _ then _ else _) = _
      rw [if_neg (by omega)]; exact h3
  · obtain ⟨h1, h2, h3, h4⟩ := h.o0 b hb
    refine ⟨h1, by omega, ?_, h4⟩;show (if _ then _ else _) = _
    rw [if_neg (by omega)]; exact h3
  · by_cases e : i' = i
    · subst e; rw [Deaf_own, h.deafW i' hi', upd_same]; exact hdeaf
    · rw [hother _ (by omega), h.deafW i' hi', upd_ne D _ e]
  · by_cases e : i' = i
    · subst e; rw [upd_same] at hst; exact hrel hst
    · rw [upd_ne D _ e] at hst
      obtain ⟨r, hr⟩ := h.rel i' hi' hst;exact ⟨r, relApp hr (by omega)⟩
  · by_cases e : i' = i
    · subst e; rw [upd_same] at hst ⊢; exact hhas hst
    · rw [upd_ne D _ e] at hst
      rw [upd_ne O _ e];obtain ⟨v, hv, hf⟩ := h.has i' hi' hst;refine ⟨v, (hc.cells i' e).trans hv, fo.stays _ _ _ _ _ _ hf ⟨hc.tape, hc.os, hc.output, hsz, fun b hb hob => ?_⟩ fun _ x => x⟩;obtain ⟨k1, k2, k3⟩ := kW i' hi' e b (.inl hob);exact hc.block b hb k1 k2 k3
theorem starterMove (G : Geo H) (fo : FinOk H) (h : PInv H AnchW Out W0 j gs w t D F tag d0 ow X O O0 a st sm)
    {a' : Goroutine} {es : Array Event} {tag' : CTag} {T' : Tree} {st' sm' : Int} (hgo : stepG H.P true a w = .go a' w' es)
    (hc : Chg H O0 (fun _ => False) w w') (hcs' : CS H AnchW Out tag' j T' (deafBehind d0 es) (Plus O0 w w') a' w')
    (hok : ∀ op ∈ MemOp.ofEvents 0 a.frame.fn a.frame.place es, Ok0 H ow X j op) (hev : ∀ e ∈ es, EvB w'.heap.size e) (hwg : WgAt H.ty H.Wg w' st' sm') (hmode : Go.ConcN.Mode j D tag' st' sm')
    (hacq : tag' = .ret → AcqS H j (t ++ MemOp.ofEvents 0 a.frame.fn a.frame.place es))
    (hlt : phi H.n (Vc j D) tag' < phi H.n (Vc j D) tag ∨ (phi H.n (Vc j D) tag' = phi H.n (Vc j D) tag ∧ (TLt T' (F 0) ∨ (T' = F 0 ∧ fl tag' < fl tag)))) :
    ∃ m₁ ops μ', runT H.P (crowd gs w sl) 0 = (.next m₁, ops) ∧ MLt H μ' (phi H.n (Vc j D) tag + Ssum j D, F, fl tag) ∧ Inv H AnchW Out W0 μ' m₁ (t ++ ops) := by
  have s1 := G.s1;have hsz := hc.size;have kW : ∀ i, i < j → ∀ b, O i b ∨ RoX H (X i) b → ¬ O0 b ∧ b ≠ H.Wg ∧ b ≠ H.C := by
    rintro i hi b (hb | ⟨h1, h2, h3, _⟩ | rfl)
    · obtain ⟨h1, _, h3⟩ := h.olt i hi b hb
      refine ⟨fun k => by have := (h.o0 b k).2.2.1; omega, ?_, ?_⟩
      · rintro rfl; have := G.wg; omega
      · rintro rfl; have := G.c; omega
    · exact ⟨fun k => by have := (h.o0 b k).1; omega, h2, h3⟩
    · have h1 := h.xok.ge i hi
      refine ⟨fun k => (h.o0 _ k).2.2.2 i hi rfl, ?_, ?_⟩
      · intro e; have := G.wg; omega
      · intro e; have := G.c; omega
  have hrun := runT_crowd_go (P := H.P) (sl := sl) (i := 0) h.a0 (by simpa using hgo);obtain ⟨sn, nrl⟩ := seen_ofEvents (g := 0) (fn := a.frame.fn) (pos := a.frame.place) hev;have hother : ∀ k, k ≠ 0 → Deaf (t ++ MemOp.ofEvents 0 a.frame.fn a.frame.place es) k = Deaf t k := fun k hk => Deaf_other t (Ne.symm hk) _ g_of_ofEvents
  refine ⟨_, _, (phi H.n (Vc j D) tag' + Ssum j D, upd F 0 T', fl tag'), hrun, ?_, _, w', sl, j, D, upd F 0 T', tag', deafBehind d0 es, ow, X, O, Plus O0 w w', a', st', sm', rfl,
    { size := by simp [h.size]
      a0 := get_ms_same _ _ _ (by rw [h.size]; omega)
      cs := by rw [upd_same]; exact hcs'
      old := fun k hk hks x hx => ?_
      wk := fun i hi => ?_
      ti := h.ti.app0 G h.xok hok
      xok := h.xok
      xlt := fun i hi => Nat.lt_of_lt_of_le (h.xlt i hi) hsz
      olt := fun i hi b hb => by obtain ⟨h1, h2, h3⟩ := h.olt i hi b hb; exact ⟨h1, by omega, h3⟩
      o0 := fun b hb => ?_
      seen := h.seen.app hsz sn
      norel := h.norel.app nrl
      deaf0 := by rw [Deaf_own, h.deaf0]
      deafW := fun i hi => by rw [hother _ (by omega), h.deafW i hi]
      above := fun k hk => by rw [hother k (by omega), h.above k hk]
      rel := fun i hi hst => let ⟨r, hr⟩ := h.rel i hi hst; ⟨r, relApp hr (by omega)⟩
      has := fun i hi hst => ?_
      pay := hc.pay
      wg := hwg
      mode := hmode
      acq := hacq
      b0 := Nat.le_trans h.b0 hsz
      fresh := fun b hb => h.fresh b (by omega)
      base := h.base.trans ⟨hc.tape, hc.os, hc.output, hsz, fun b hb k => hc.block b hb (fun x => by have := (h.o0 b x).1; have := k.1; omega) k.2.1 k.2.2⟩ }, rfl⟩
  · rcases hlt with h1 | ⟨h1, h2⟩
    · exact Prod.Lex.left _ _ (by omega)
    · rw [h1]
      rcases h2 with h2 | ⟨h2, h3⟩
      · refine Prod.Lex.right _ (Prod.Lex.left _ _ <| FL.at (k := 0) (by omega) (by rw [upd_same]; exact h2) fun m h3 _ => by rw [upd_ne _ _ (by omega)])
      · have e : upd F 0 T' = F := by
          funext k
          by_cases hk : k = 0
          · subst hk; rw [upd_same]; exact h2
          · rw [upd_ne _ _ hk]
        rw [e];exact Prod.Lex.right _ (Prod.Lex.right _ h3)
  · rw [get_ms _ _ _ _ (by omega)] at hx
    obtain ⟨y, hy, rfl⟩ := Option.map_eq_some_iff.1 hx;obtain ⟨q, hq1, hq2⟩ := h.old k hk hks y hy;refine ⟨q, by rw [upd_ne _ _ (by omega)]; exact hq1, ?_⟩;rw [woken_quitsD hq2, hother k (by omega)];exact hq2
  · obtain ⟨x, hx, hsx⟩ := h.wk i hi
    refine ⟨x, by rw [get_ms _ _ _ _ (by omega), hx, Option.map_some, hsx.woken], ?_⟩;rw [upd_ne _ _ (by omega)];exact hsx.rely (hc.relyW (kW i hi) fun x => x)
  · rcases hb with hb | ⟨h1, h2⟩
    · obtain ⟨h1, h2, h3, h4⟩ := h.o0 b hb
      exact ⟨h1, by omega, h3, h4⟩
    · exact ⟨by have := h.b0; omega, h2, h.fresh b h1, fun i hi e => by have := h.xlt i hi; omega⟩
  · obtain ⟨v, hv, hf⟩ := h.has i hi hst
    refine ⟨v, (hc.cells i fun x => x).trans hv, fo.stays _ _ _ _ _ _ hf ⟨hc.tape, hc.os, hc.output, hsz, fun b hb hob => ?_⟩ fun _ x => x⟩;obtain ⟨k1, k2, k3⟩ := kW i hi b (.inl hob);exact hc.block b hb k1 k2 k3
omit [Payload] in
theorem evB_mute {B:Nat} {e:Event} (h:e.mute=true):EvB B e:=by
 refine ⟨fun x hx=>(by rw [touch_mute h] at hx; cases hx),fun a ha => ?_⟩
 obtain ⟨loc,wr,sy⟩:=e
 simp only at ha
 subst ha
 simp [Event.mute] at h
theorem leaverMove (G : Geo H) (hA : ∀ o g w, AnchW o g w → g.status = .running) (hO : ∀ o g w, Out o g w → g.status = .running) (h : PInv H AnchW Out W0 j gs w t D F tag d0 ow X O O0 a st sm)
    {k : Nat} (hk : 0 < k) (hks : k < H.s) {g : Goroutine} (hg : gs[k]? = some g) (hrun : g.status = .running) :
    ∃ m₁ ops μ', runT H.P (crowd gs w sl) k = (.next m₁, ops) ∧ MLt H μ' (phi H.n (Vc j D) tag + Ssum j D, F, fl tag) ∧ Inv H AnchW Out W0 μ' m₁ (t ++ ops) := by
  obtain ⟨q, hq1, hq2⟩ := h.old k hk hks g hg;cases q with
  | zero => rw [hq2.1] at hrun; cases hrun
  | succ q =>
    rcases hq2 with ⟨hf, _⟩ | ⟨_, g', es, hm, hstp, hq'⟩
    · rw [hf] at hrun; cases hrun
    obtain ⟨tag', T0', hcs', htag, hwk⟩ := h.cs.wokenBy hA hO (RelyS.refl H O0 w) g g';have hr := runT_crowd_go (P := H.P) (sl := sl) (i := k) hg (by rw [show (k == 0) = false by simp; omega]; exact hstp w);obtain ⟨sn, nrl⟩ := seen_ofEvents (B := w.heap.size) (g := k) (fn := g.frame.fn) (pos := g.frame.place) (es := es) fun e he => evB_mute (hm e he)
    have hother : ∀ k', k' ≠ k → Deaf (t ++ MemOp.ofEvents k g.frame.fn g.frame.place es) k' = Deaf t k' := fun k' hk' => Deaf_other t (Ne.symm hk') _ g_of_ofEvents
    refine ⟨_, _, (phi H.n (Vc j D) tag' + Ssum j D, upd (upd F k (natT q)) 0 T0', fl tag'), hr, ?_, _, w, sl, j, D, upd (upd F k (natT q)) 0 T0', tag', d0, ow, X, O, O0, woken H.P g g' w a, st, sm, rfl,
      { size := by simp [h.size]
        a0 := by rw [get_ms _ _ _ _ (by omega), h.a0]; rfl
        cs := by rw [upd_same]; exact hcs'
        old := fun k' hk' hks' x hx => ?_
        wk := fun i hi => ?_
        ti := h.ti.leaver g_of_ofEvents (by omega) fun op hop => by obtain ⟨e, he, rfl⟩ := Go.Conc.mem_ofEvents hop; exact touch_mute (hm e he)
        xok := h.xok
        xlt := h.xlt
        olt := h.olt
        o0 := h.o0
        seen := h.seen.app (Nat.le_refl _) sn
        norel := h.norel.app nrl
        deaf0 := by rw [hother 0 (by omega), h.deaf0]
        deafW := fun i hi => by rw [hother _ (by omega), h.deafW i hi]
        above := fun k' hk' => by rw [hother k' (by omega), h.above k' hk']
        rel := fun i hi hst => let ⟨r, hr⟩ := h.rel i hi hst; ⟨r, relApp hr (by omega)⟩
        has := h.has
        pay := h.pay
        wg := h.wg
        mode := h.mode.retag htag
        acq := fun e => (h.acq (by rcases htag with rfl | ⟨_, rfl⟩; exact e; cases e)).app fun i r hi hr => relApp hr (by omega)
        b0 := h.b0
        fresh := h.fresh
        base := h.base }, rfl⟩
    · rw [phi_retag H.n _ htag]
      refine Prod.Lex.right _ (Prod.Lex.left _ _ <| FL.at (k := k) (by omega) ?_ fun m h3 h4 => ?_)
      · rw [upd_ne _ _ (by omega), upd_same, hq1]; exact natT_lt w q
      · rw [upd_ne _ _ (by omega), upd_ne _ _ (by omega)]
    · by_cases e : k' = k
      · subst e
        rw [get_ms_same _ _ _ (by rw [h.size]; omega)] at hx
        obtain rfl := Option.some.inj hx;exact ⟨q, by rw [upd_ne _ _ (by omega), upd_same], by rw [Deaf_own]; exact hq'⟩
      · rw [get_ms _ _ _ _ (by omega)] at hx
        obtain ⟨y, hy, rfl⟩ := Option.map_eq_some_iff.1 hx;obtain ⟨q', hq1', hq2'⟩ := h.old k' hk' hks' y hy;refine ⟨q', by rw [upd_ne _ _ (by omega), upd_ne _ _ e]; exact hq1', ?_⟩;rw [woken_quitsD hq2', hother k' e];exact hq2'
    · obtain ⟨x, hx, hsx⟩ := h.wk i hi
      refine ⟨x, by rw [get_ms _ _ _ _ (by omega), hx, Option.map_some, hsx.woken], ?_⟩;rw [upd_ne _ _ (by omega), upd_ne _ _ (by omega)];exact hsx
theorem PInv.at (fo : FinOk H) (h : PInv H AnchW Out W0 j gs w t D F tag d0 ow X O O0 a st sm) (d : Nat) : PInv H AnchW Out W0 j gs (w.at d) t D F tag d0 ow X O O0 a st sm :=
  { h with
    cs := h.cs.rely ⟨⟨rfl, rfl, rfl, Nat.le_refl _, fun _ _ _ => rfl⟩, id⟩
    wk := fun i hi => let ⟨g, hg, hs⟩ := h.wk i hi; ⟨g, hg, hs.rely ⟨⟨rfl, rfl, rfl, Nat.le_refl _, fun _ _ _ => rfl⟩, id, id, rfl⟩⟩
    has := fun i hi hst => let ⟨v, hv, hf⟩ := h.has i hi hst; ⟨v, hv, fo.stays _ _ _ _ _ _ hf ⟨rfl, rfl, rfl, Nat.le_refl _, fun _ _ _ => rfl⟩ fun _ x => x⟩
    base := h.base.trans ⟨rfl, rfl, rfl, Nat.le_refl _, fun _ _ _ => rfl⟩ }
end
end Rn
namespace Rn
open Go.Conc
open Go.ConcN (ShN PermW RelBy WgLive PayAt Has AtR0 AtK1 AtD1 AtD2 AtD3 AtD4 RW CTag WD upd upd_same upd_ne sumTo sumTo_upd cnt Vc Ssum phi phi_retag phi_mono)
open Go.ConcR (KK WgAt stA smA rd wr mk Payload DC0 g_of_ofEvents Bk bk_of_mute ofEvent_loc_mark)
variable [Payload]
section
variable {H : Ph} {ow X : Nat → Nat} {i j g B : Nat} {fn : FuncId} {pos : String} {es : Array Event}
omit [Payload] in
theorem bk_touch {e:Event} (h:Bk H.Wg e):(MemAct.ofEvent e).touch?=none ∨ ∃ a wr,(MemAct.ofEvent e).touch?=some ⟨.cell a,wr,.atomic⟩∧a.block=H.Wg:=by
 rcases h with h1 | h1 | ⟨a,wr,rfl,hb⟩
 ·exact .inl (by rw [ofEvent_loc_mark h1]; rfl)
 ·exact .inl (by rw [ofEvent_loc_mark h1]; rfl)
 ·exact .inr ⟨a,wr,by cases wr <;> rfl,hb⟩
omit [Payload] in
theorem okW_bk (h:∀ e ∈ es,Bk H.Wg e):∀ op ∈ MemOp.ofEvents (H.s+i) fn pos es,OkW H ow X i op:=by
 intro op hop
 obtain ⟨e,he,rfl⟩:=Go.Conc.mem_ofEvents hop
 refine ⟨rfl,fun x hx => ?_⟩
 rcases bk_touch (h e he) with h0 | ⟨a,wr,h0,hb⟩
 ·simp only [h0] at hx; cases hx
 ·simp only [h0] at hx; cases hx; exact .inl ⟨⟨a,rfl,hb⟩,by simp,by simp⟩
omit [Payload] in
theorem okW_none (h:∀ e ∈ es,(MemAct.ofEvent e).touch?=none):∀ op ∈ MemOp.ofEvents (H.s+i) fn pos es,OkW H ow X i op:=by
 intro op hop
 obtain ⟨e,he,rfl⟩:=Go.Conc.mem_ofEvents hop
 exact ⟨rfl,fun x hx=>(by simp only [h e he] at hx; cases hx)⟩
omit [Payload] in
theorem ok0_bk (h:∀ e ∈ es,Bk H.Wg e):∀ op ∈ MemOp.ofEvents 0 fn pos es,Ok0 H ow X j op:=by
 intro op hop
 obtain ⟨e,he,rfl⟩:=Go.Conc.mem_ofEvents hop
 refine ⟨rfl,fun x hx _ => ?_⟩
 rcases bk_touch (h e he) with h0 | ⟨a,wr,h0,hb⟩
 ·simp only [h0] at hx; cases hx
 ·simp only [h0] at hx; cases hx; exact .inl ⟨⟨a,rfl,hb⟩,by simp⟩
omit [Payload] in
theorem ok0_none (h:∀ e ∈ es,(MemAct.ofEvent e).touch?=none):∀ op ∈ MemOp.ofEvents 0 fn pos es,Ok0 H ow X j op:=by
 intro op hop
 obtain ⟨e,he,rfl⟩:=Go.Conc.mem_ofEvents hop
 exact ⟨rfl,fun x hx=>(by simp only [h e he] at hx; cases hx)⟩
omit [Payload] in
theorem evB_bk (hB:H.Wg<B) (h:∀ e ∈ es,Bk H.Wg e):∀ e ∈ es,EvB B e:=by
 intro e he
 refine ⟨fun x hx b hb => ?_,fun a ha => ?_⟩
 ·rcases bk_touch (h e he) with h0 | ⟨a,wr,h0,hbl⟩
  ·rw [h0] at hx; cases hx
  ·rw [h0] at hx; cases hx; simp only [lb,Option.some.injEq] at hb; omega
 ·rcases h e he with h1 | h1 | ⟨a',wr,rfl,_⟩
  ·rw [h1] at ha; cases ha
  ·rw [h1] at ha; cases ha
  ·cases ha
omit [Payload] in
theorem bk_cell (a:Addr) (wr:Bool) (h:a.block=H.Wg):Bk H.Wg ⟨.cell a,wr,true⟩ := .inr (.inr ⟨a,wr,rfl,h⟩)
omit [Payload] in
theorem relBook {a:Addr} {t:Trace} {k r d:Nat} (h:RelBy a t k r) (hdk:Deaf t k=d) (fn:FuncId) (pos:String) {es:Array Event} (hes:∀ e ∈ es,Bk H.Wg e)
  (hd:∀ j e,es[j]?=some e→(MemAct.ofEvent e).touch?=none ∨ 0<deafBehind d (es.extract 0 j)):RelBy a (t ++ MemOp.ofEvents k fn pos es) k r:=by
 refine h.appOwn fn pos es (fun j x hx => ?_)
 rcases hd j x hx with h0 | h0
 ·exact .inl h0
 ·rcases hes x (Array.mem_of_getElem? hx) with h1 | h1 | ⟨a,wr,rfl,_⟩
  ·exact .inl (by rw [ofEvent_loc_mark h1]; rfl)
  ·exact .inl (by rw [ofEvent_loc_mark h1]; rfl)
  ·exact .inr ⟨⟨a,wr,rfl⟩,by rw [hdk]; exact h0⟩
end
section
variable {H : Ph} {mine : Bl} {ci : Nat → Prop} {w w' : World}
theorem Chg.aside (h:Aside H.Wg w w') (hl:WgLive H.ty H.Wg w') (hp:PayAt H.C H.n w) (hne:H.C ≠ H.Wg):Chg H mine ci w w' where
 tape:=h.tape
 os:=h.os
 output:=h.output
 size:=Nat.le_of_eq h.size.symm
 block b _ _ hb _:=h.block b hb
 live:=hl
 pay:=by obtain ⟨cs,h1,h2⟩:=hp; exact ⟨cs,(h.block _ hne).trans h1,h2⟩
 cells k _:=by simp only [World.cell?,h.block _ hne]
end
section
variable {H : Ph} {AnchW Out : Bl → Goroutine → World → Prop} {W0 : World}
 {j : Nat} {gs : Array Goroutine} {w w' : World} {sl : Option (Nat × Nat)} {t : Trace} {D : Nat → WD} {F : Nat → Tree} {tag : CTag} {d0 : Nat} {ow X : Nat → Nat} {O : Nat → Bl} {O0 : Bl} {a : Goroutine} {st sm : Int}
set_option maxHeartbeats 1600000 in
theorem stepWorker (G:Geo H) (fo:FinOk H) (hn:H.n<2147483648) (hA:∀ o g w,AnchW o g w→g.status = .running) (hO:∀ o g w,Out o g w→g.status = .running)
  (h:PInv H AnchW Out W0 j gs w t D F tag d0 ow X O O0 a st sm) {i:Nat} (hi:i<j) {g:Goroutine} (hg:gs[H.s+i]?=some g) (hrun:g.status = .running) :
  ∃ m₁ ops μ',runT H.P (crowd gs w sl) (H.s+i)=(.next m₁,ops)∧MLt H μ' (phi H.n (Vc j D) tag+Ssum j D,F,fl tag)∧Inv H AnchW Out W0 μ' m₁ (t ++ ops):=by
 obtain ⟨g₁,hg₁,hs⟩:=h.wk i hi;obtain rfl:g=g₁:=by rw [hg] at hg₁; exact Option.some.inj hg₁
 have hmode:=h.mode;have hwg:=h.wg;have hb:=h.cs.bound;have hVj:=Go.ConcN.Vc_le j D;have hdw:=h.deafW i hi;have htr:=h.rel i hi;have hha:=h.has i hi;have hnotret:=fun x=>hmode.not_ret (i:=i) hi x
 generalize hst:(D i).stage=s at hs htr hha hnotret;generalize hfu:F (H.s+i)=T at hs;generalize hde:(D i).deaf=dd at hs;have hdk:Deaf t (H.s+i)=dd:=by rw [hdw,hde]
 have wgl:H.Wg<w.heap.size:=Nat.lt_of_lt_of_le G.wg h.b0;have cl:H.C<w.heap.size:=Nat.lt_of_lt_of_le G.c h.b0;have still:∀ {w:World},Plus (O i) w w=O i:=Plus.same rfl;have bookG:∀ {g':Goroutine} {w':World} {es:Array Event} {s' dd':Nat} {T':Tree} {st' sm':Int},stepG H.P false g w = .go g' w' es→Aside H.Wg w w'→WgAt H.ty H.Wg w' st' sm'→(∀ e ∈ es,Bk H.Wg e) →
   (∀ jx e,es[jx]?=some e→(MemAct.ofEvent e).touch?=none ∨ 0<deafBehind dd (es.extract 0 jx))→WS H (RoX H (X i)) i s' T' dd' (O i) g' w'→deafBehind dd es=dd'→s≤6 →
   (∀ tag',(tag'=tag ∨ (tag = .blk∧tag' = .w3))→(mayWake H.P g=true→g'.status = .running→tag' ≠ .blk)→Go.ConcN.Mode j (upd D i ⟨s',0,dd'⟩) tag' st' sm') →
   (tag = .ret→AcqS H j (t ++ MemOp.ofEvents (H.s+i) g.frame.fn g.frame.place es))→((s'<s∧cnt ⟨s',0,dd'⟩≤cnt (D i)) ∨ (s'=s∧TLt T' T)) →
   ∃ m₁ ops μ',runT H.P (crowd gs w sl) (H.s+i)=(.next m₁,ops)∧MLt H μ' (phi H.n (Vc j D) tag+Ssum j D,F,fl tag)∧Inv H AnchW Out W0 μ' m₁ (t ++ ops):=by
  intro g' w' es s' dd' T' st' sm' hgo hAs hwg' hbk hd hs' hdd h6 hmode' hacq' hlt;have hsz:=hAs.size;have hpl:Plus (O i) w w'=O i:=Plus.same hsz;refine workerMove G fo hA hO h hi hg hgo (.aside hAs ⟨_,_,hwg'⟩ h.pay G.ne) (by rw [hpl]; exact hs') (okW_bk hbk) (evB_bk (by omega) hbk) (by rw [hde]; exact hdd)
   (fun _=>let ⟨r,hr⟩:=htr h6; ⟨r,relBook (H:=H) hr hdk _ _ hbk hd⟩) (fun _ => ?_) hwg' hmode' hacq' (by rw [hst,hfu]; exact hlt)
  obtain ⟨v,hv,hf⟩:=hha h6;refine ⟨v,?_,fo.stays _ _ _ _ _ _ hf ⟨hAs.tape,hAs.os,hAs.output,Nat.le_of_eq hsz.symm,fun b hb ho=>hAs.block b ?_⟩ (by rw [hpl]; exact fun _ x=>x)⟩
  ·show w'.cell? _=_
   rw [← hv];simp only [World.cell?,hAs.block _ G.ne]
  ·rintro rfl
   have:=(h.olt i hi _ ho).1;have:=G.wg;omega
 have book:∀ {g':Goroutine} {w':World} {es:Array Event} {s' dd':Nat} {T':Tree} {st' sm':Int},stepG H.P false g w = .go g' w' es→Aside H.Wg w w'→WgAt H.ty H.Wg w' st' sm'→(∀ e ∈ es,Bk H.Wg e) →
   (∀ jx e,es[jx]?=some e→(MemAct.ofEvent e).touch?=none ∨ 0<deafBehind dd (es.extract 0 jx))→WS H (RoX H (X i)) i s' T' dd' (O i) g' w'→deafBehind dd es=dd'→s≤6 →
   Go.ConcN.Mode j (upd D i ⟨s',0,dd'⟩) tag st' sm'→(tag = .ret→AcqS H j (t ++ MemOp.ofEvents (H.s+i) g.frame.fn g.frame.place es))→((s'<s∧cnt ⟨s',0,dd'⟩≤cnt (D i)) ∨ (s'=s∧TLt T' T)) →
   ∃ m₁ ops μ',runT H.P (crowd gs w sl) (H.s+i)=(.next m₁,ops)∧MLt H μ' (phi H.n (Vc j D) tag+Ssum j D,F,fl tag)∧Inv H AnchW Out W0 μ' m₁ (t ++ ops) :=
  fun hgo hAs hwg' hbk hd hs' hdd h6 hmode' hacq' hlt=>bookG hgo hAs hwg' hbk hd hs' hdd h6 (fun _ ht _=>hmode'.retag ht) hacq' hlt
 have idle:∀ {g':Goroutine} {m':Nat},stepG H.P false g w = .go g' w #[]→WS H (RoX H (X i)) i s (natT m') dd (O i) g' w→T=natT (m'+1)→s≤6→s ≠ 1 →
   ∃ m₁ ops μ',runT H.P (crowd gs w sl) (H.s+i)=(.next m₁,ops)∧MLt H μ' (phi H.n (Vc j D) tag+Ssum j D,F,fl tag)∧Inv H AnchW Out W0 μ' m₁ (t ++ ops):=by
  intro g' m' hgo hs' hm h6 h1;exact book hgo (.refl H.Wg w) hwg (by simp) (by simp) hs' rfl h6 (by have:=hmode.same (i:=i) 0 dd; rwa [hst] at this) (fun e=>absurd e (hnotret h1)) (.inr ⟨rfl,by rw [hm]; exact natT_lt w m'⟩)
 cases hs with
 | way hw =>
  rcases hw.inv (RelyW.refl H _ i) with hstop | ⟨_,T',g',w',es,hT,hgo,hd,hw'⟩
  ·obtain ⟨v,⟨_,hhas,g',hgo,m₂,hk⟩,hfin⟩:=hstop w (RelyW.refl H _ _ _ _)
   refine workerMove (T':=natT m₂) (s':=6) (dd':=0) G fo hA hO h hi hg hgo (.aside (.refl H.Wg w) ⟨_,_,hwg⟩ h.pay G.ne) (by rw [still]; exact .k1 hk) (okW_none (by intro e he; simp at he; subst he; rfl)) (by intro e he; simp at he; subst he; exact ⟨fun x hx=>(by simp [mk,MemAct.ofEvent,MemAct.touch?] at hx),by simp [mk]⟩)
    (by rw [hde]; rfl) (fun _=>⟨t.size,RelBy.new (by rw [hdk]) _ _⟩) (fun _=>⟨v,by simpa using hhas,by rw [still]; exact hfin⟩) hwg (fun _ ht _=>(hmode.counted hi (by omega) (.inl rfl) _ _).retag ht) (fun e=>absurd e (hnotret (by omega))) (.inl ⟨by omega,by simp [cnt,hst]⟩)
  ·have hoC:¬ O i H.C:=fun x=>by have:=(h.olt i hi _ x).1; have:=G.c; omega
   have hoW:¬ O i H.Wg:=fun x=>by have:=(h.olt i hi _ x).1; have:=G.wg; omega
   have hsz:=hd.size;have hwg':WgAt H.ty H.Wg w' st sm:=(hd.block _ wgl hoW (Ne.symm G.ne)).trans hwg;have hpl:∀ b,Plus (O i) w w' b→H.B0≤b∧b<w'.heap.size∧(if w.heap.size≤b∧b<w'.heap.size then H.s+i else ow b)=H.s+i:=by
    rintro b (hb | ⟨h1,h2⟩)
    ·obtain ⟨h1,h2,h3⟩:=h.olt i hi b hb
     exact ⟨h1,by omega,by rw [if_neg (by omega)]; exact h3⟩
    ·exact ⟨by have:=h.b0; omega,h2,by rw [if_pos ⟨h1,h2⟩]⟩
   have hro:∀ b,RoX H (X i) b→b<w'.heap.size:=by
    rintro b (⟨h1,_⟩ | rfl)
    ·have:=h.b0; omega
    ·have:=h.xlt i hi; omega
   have tch:∀ e ∈ es,∀ x,(MemAct.ofEvent e).touch?=some x→((∃ b,lb x.loc=some b∧Plus (O i) w w' b) ∨ x.loc = .cell ⟨H.C,i,none⟩ ∨ ((∃ b,lb x.loc=some b∧RoX H (X i) b)∧x.write=false))∧x.kind = .plain:=by
    intro e he x hx;obtain ⟨loc,wr,sy⟩:=e;rcases hd.ev _ he with (⟨hsy,⟨q,hq,hx2⟩ | ⟨q,hq,hx2⟩⟩ | hx2) | ⟨hsy,hq⟩
    ·simp only at hsy hq; subst hsy; subst hq
     simp only [MemAct.ofEvent,MemAct.touch?,Option.some.injEq] at hx;subst hx;exact ⟨hx2.elim (fun y => .inl ⟨_,rfl,y⟩) fun y => .inr (.inr ⟨⟨_,rfl,y.1⟩,y.2⟩),rfl⟩
    ·simp only at hsy hq; subst hsy; subst hq
     cases wr <;> simp only [MemAct.ofEvent,MemAct.touch?,Option.some.injEq] at hx <;> subst hx <;> exact ⟨hx2.elim (fun y => .inl ⟨_,rfl,y⟩) fun y => .inr (.inr ⟨⟨_,rfl,y.1⟩,y.2⟩),rfl⟩
    ·cases hx2; simp [MemAct.ofEvent,MemAct.touch?] at hx
    ·simp only at hsy hq; subst hsy; subst hq
     simp only [MemAct.ofEvent,MemAct.touch?,Option.some.injEq] at hx;subst hx;exact ⟨.inr (.inl rfl),rfl⟩
   have nomark:∀ e ∈ es,e.loc ≠ .mark .disable∧e.loc ≠ .mark .enable∧∀ a,e.loc ≠ .mark (.release a):=by
    intro e he;rcases hd.ev _ he with (⟨_,⟨q,hq,_⟩ | ⟨q,hq,_⟩⟩ | hx2) | ⟨_,hq⟩
    ·rw [hq]; simp
    ·rw [hq]; simp
    ·rw [hx2]; simp
    ·rw [hq]; simp
   refine workerMove (T':=T') (s':=7) (dd':=0) G fo hA hO h hi hg hgo ⟨hd.tape,hd.os,hd.output,hsz,fun b hb h1 _ h3=>hd.block b hb h1 h3,⟨_,_,hwg'⟩,hd.pay hoC h.pay,fun k hk=>hd.cells hoC cl k hk⟩ (.way hw')
    (fun op hop => ?_) (fun e he=>⟨fun x hx b hb => ?_,(nomark e he).2.2⟩) (by rw [hde]; exact deafBehind_still (fun e he=>⟨(nomark e he).1,(nomark e he).2.1⟩) 0) (fun h=>by omega) (fun h=>by omega) hwg'
    (fun _ ht _=>Go.ConcN.Mode.retag (by have:=hmode.same (i:=i) 0 0; rwa [hst] at this) ht) (fun e=>absurd e (hnotret (by omega))) (.inr ⟨hst.symm,by rw [hfu]; exact hT⟩)
   ·obtain ⟨e,he,rfl⟩:=Go.Conc.mem_ofEvents hop
    refine ⟨rfl,fun x hx => .inr ?_⟩;obtain ⟨hx1,hx2⟩:=tch e he x hx;refine ⟨?_,hx2⟩;rcases hx1 with ⟨b,hb,hp⟩ | hx1 | ⟨⟨b,hb,hp⟩,hwf⟩
    ·obtain ⟨h1,_,h3⟩:=hpl b hp
     exact .inl (.inl ⟨b,hb,h1,h3⟩)
    ·exact .inl (.inr hx1)
    ·exact .inr ⟨⟨b,hb,hp⟩,hwf⟩
   ·obtain ⟨hx1,_⟩:=tch e he x hx
    rcases hx1 with ⟨b',hb',hp⟩ | hx1 | ⟨⟨b',hb',hp⟩,_⟩
    ·rw [hb] at hb'; cases hb'; exact (hpl b hp).2.1
    ·rw [hx1] at hb; simp only [lb,Option.some.injEq] at hb; omega
    ·rw [hb] at hb'; cases hb'; exact hro b hp
 | @k1 m _ _ _ hw =>
  rcases Goes.cases hw with hstop | ⟨m',rfl,hstep⟩
  ·obtain ⟨_,g',hgo,m₂,hk⟩:=hstop w (RW.refl w)
   exact book hgo (.refl H.Wg w) hwg (by intro e he; simp at he; subst he; exact .inl rfl) (by intro jx e he; exact .inl (by have:=Array.mem_of_getElem? he; simp at this; subst this; rfl)) (.d1 hk) rfl (by omega)
    (hmode.counted hi (by omega) (.inr rfl) _ _) (fun e=>absurd e (hnotret (by omega))) (.inl ⟨by omega,by simp [cnt,hst]⟩)
  ·obtain ⟨g',w',es,hgo,⟨rfl,rfl⟩,hg'⟩:=hstep w (RW.refl w)
   exact idle hgo (.k1 hg') rfl (by omega) (by omega)
 | @d1 m _ _ _ hw =>
  rcases Goes.cases hw with hstop | ⟨m',rfl,hstep⟩
  ·obtain ⟨_,hall⟩:=hstop w (RW.refl w)
   have hc1:cnt (D i)=1:=by simp [cnt,hst]
   have hV1:1≤Vc j D:=by have:=Go.ConcN.le_sumTo (f:=fun x=>cnt (D x)) hi; simp only [Vc]; omega
   have bk2:∀ e ∈ #[rd (stA H.Wg),wr (stA H.Wg)],Bk H.Wg e:=by intro e he; simp at he; rcases he with rfl | rfl <;> exact bk_cell (H:=H) _ _ rfl
   have df2:∀ jx e,(#[rd (stA H.Wg),wr (stA H.Wg)]:Array Event)[jx]?=some e→(MemAct.ofEvent e).touch?=none ∨ 0<deafBehind 1 ((#[rd (stA H.Wg),wr (stA H.Wg)]:Array Event).extract 0 jx):=by
    intro jx e he;match jx,he with
    | 0,_=>exact .inr (by simp [deafBehind])
    | 1,_=>exact .inr (by simp [deafBehind,rd])
    | jx+2,he=>simp at he
   have hq0:cnt (⟨1,0,1⟩:WD)=0:=rfl;have opq:Go.ConcN.OpenSt j D→Go.ConcN.OpenSt j (upd D i ⟨1,0,1⟩):=fun h a ha=>by
    by_cases e:a=i
    ·subst e; rw [upd_same]; simp
    ·rw [upd_ne D _ e]; exact h a ha
   have hnr:=hnotret;revert hwg hnr
   cases hmode with
   | opn h1 h2 h3 =>
    intro hwg hnr;obtain ⟨v,hv⟩:∃ v,Vc j D+Go.ConcN.pend tag=v+1:=⟨Vc j D+Go.ConcN.pend tag - 1,by omega⟩;rw [hv] at hwg;have hw1:WgAt H.ty H.Wg w (((v:Nat)+1)*KK+((0:Nat):Int)) 0:=by simpa using hwg
    obtain ⟨g',hgo,_,hq⟩:=hall v 0 (by omega) (by omega) hw1;obtain ⟨q,hq⟩:=hq (by omega);have hv':Vc j (upd D i ⟨1,0,1⟩)+Go.ConcN.pend tag=v:=by have:=Go.ConcN.Vc_upd D (⟨1,0,1⟩:WD) hi; omega
    refine book hgo (aside_setCell w (stA H.Wg) _) (hwg.setSt _) bk2 df2 (.quit hq) rfl (by omega) ?_ (fun e=>absurd e (hnr (by omega))) (.inl ⟨by omega,by simp [cnt]⟩);have e:((v:Nat):Int)*KK+((0:Nat):Int)=((Vc j (upd D i ⟨1,0,1⟩)+Go.ConcN.pend tag:Nat):Int)*KK:=by rw [hv']; simp
    rw [e];exact .opn h1 (opq h2) (fun vs ev=>by have:=h3 vs ev; omega)
   | reg h1 h2 h3 =>
    intro hwg hnr;obtain ⟨v,hv⟩:∃ v,Vc j D=v+1:=⟨Vc j D - 1,by omega⟩;rw [hv] at hwg;have hp:Go.ConcN.pend tag=0:=by cases tag <;> first | rfl | exact h1.elim
    have hw1:WgAt H.ty H.Wg w (((v:Nat)+1)*KK+((1:Nat):Int)) 0:=by simpa using hwg
    obtain ⟨g',hgo,hl,hq⟩:=hall v 1 (by omega) (by omega) hw1;by_cases hv0:v=0
    ·subst hv0
     obtain ⟨m₂,hk⟩:=hl ⟨rfl,rfl⟩;refine book hgo (aside_setCell w (stA H.Wg) _) (hwg.setSt _) bk2 df2 (.d2 hk) rfl (by omega) ?_ (fun e=>absurd e (hnr (by omega))) (.inl ⟨by omega,by simp [cnt]⟩);have hoth:∀ a,a<j→a ≠ i→(D a).stage=1:=fun a ha e=>by
      have c0:=Go.ConcN.others_uncounted hi hv hc1 a ha e;have:=h2 a ha;simp only [cnt] at c0;split at c0 <;> omega
     have:=Go.ConcN.Mode.last (j:=j) (D:=upd D i ⟨4,0,1⟩) (tag:=tag) i h1 hi (by rw [upd_same]; simp) (fun a ha e=>by rw [upd_ne D _ e]; exact hoth a ha e);rw [upd_same] at this;simpa using this
    ·obtain ⟨q,hq⟩:=hq (by omega)
     have hv':Vc j (upd D i ⟨1,0,1⟩)=v:=by have:=Go.ConcN.Vc_upd D (⟨1,0,1⟩:WD) hi; omega
     refine book hgo (aside_setCell w (stA H.Wg) _) (hwg.setSt _) bk2 df2 (.quit hq) rfl (by omega) ?_ (fun e=>absurd e (hnr (by omega))) (.inl ⟨by omega,by simp [cnt]⟩);have e:((v:Nat):Int)*KK+((1:Nat):Int)=((Vc j (upd D i ⟨1,0,1⟩):Nat):Int)*KK+1:=by rw [hv']; simp
     rw [e];exact .reg h1 (opq h2) (by omega)
   | last L _ h2 h3 h4 =>
    by_cases e:i=L
    ·subst e; omega
    ·have:=h4 i hi e; omega
   | sema h2=>have:=h2 i hi; omega
   | fin _ h2=>have:=h2 i hi; omega
  ·obtain ⟨g',w',es,hgo,⟨rfl,rfl⟩,hg'⟩:=hstep w (RW.refl w)
   exact idle hgo (.d1 hg') rfl (by omega) (by omega)
 | @d2 m _ _ _ hw =>
  rcases Goes.cases hw with hstop | ⟨m',rfl,hstep⟩
  ·obtain ⟨_,hx⟩:=hstop w (RW.refl w)
   obtain ⟨hW3,hoth,rfl,rfl⟩:=hmode.isLast hi (by omega);simp only [hst] at hwg;obtain ⟨g',hgo,m₂,hk⟩:=hx (by simpa using hwg);refine book hgo (.refl H.Wg w) hwg (by intro e he; simp at he; subst he; exact bk_cell (H:=H) _ _ rfl) (by intro jx e he; match jx,he with | 0,_=>exact .inr (by simp [deafBehind]) | jx+1,he=>simp at he) (.d3 hk) rfl (by omega) ?_ (fun e=>absurd e (hnotret (by omega))) (.inl ⟨by omega,by simp [cnt]⟩)
   have:=Go.ConcN.Mode.last (j:=j) (D:=upd D i ⟨3,0,1⟩) (tag:=tag) i hW3 hi (by rw [upd_same]; simp) (fun a ha e=>by rw [upd_ne D _ e]; exact hoth a ha e);rw [upd_same] at this;simpa using this
  ·obtain ⟨g',w',es,hgo,⟨rfl,rfl⟩,hg'⟩:=hstep w (RW.refl w)
   exact idle hgo (.d2 hg') rfl (by omega) (by omega)
 | @d3 m _ _ _ hw =>
  rcases Goes.cases hw with hstop | ⟨m',rfl,hstep⟩
  ·obtain ⟨_,hx⟩:=hstop w (RW.refl w)
   obtain ⟨hW3,hoth,rfl,rfl⟩:=hmode.isLast hi (by omega);simp only [hst] at hwg;obtain ⟨g',hgo,m₂,hk⟩:=hx (by simpa using hwg);refine book hgo (aside_setCell w (stA H.Wg) _) (hwg.setSt 0) (by intro e he; simp at he; subst he; exact bk_cell (H:=H) _ _ rfl) (by intro jx e he; match jx,he with | 0,_=>exact .inr (by simp [deafBehind]) | jx+1,he=>simp at he) (.d4 hk) rfl (by omega) ?_ (fun e=>absurd e (hnotret (by omega))) (.inl ⟨by omega,by simp [cnt]⟩)
   have:=Go.ConcN.Mode.last (j:=j) (D:=upd D i ⟨2,0,1⟩) (tag:=tag) i hW3 hi (by rw [upd_same]; simp) (fun a ha e=>by rw [upd_ne D _ e]; exact hoth a ha e);rw [upd_same] at this;simpa using this
  ·obtain ⟨g',w',es,hgo,⟨rfl,rfl⟩,hg'⟩:=hstep w (RW.refl w)
   exact idle hgo (.d3 hg') rfl (by omega) (by omega)
 | @d4 m _ _ _ hw =>
  rcases Goes.cases hw with hstop | ⟨m',rfl,hstep⟩
  ·obtain ⟨_,hmw,hx⟩:=hstop w (RW.refl w)
   obtain ⟨hW3,hoth,rfl,rfl⟩:=hmode.isLast hi (by omega);simp only [hst] at hwg;obtain ⟨g',hgo,q,hq⟩:=hx (by simpa using hwg);have hrun':g'.status = .running:=by
    cases q with
    | zero=>exact absurd hq.2 (by decide)
    | succ q=>exact hq.elim (fun x=>absurd x.2 (by decide)) (fun x=>x.1)
   refine bookG hgo (aside_setCell w (smA H.Wg) _) (hwg.setSm 1) (es:=semEvents (smA H.Wg)) ?_ ?_ (.quit hq) (by simp [deafBehind,semEvents]) (by omega) ?_ (fun e=>absurd e (hnotret (by omega))) (.inl ⟨by omega,by simp [cnt]⟩)
   ·intro e he
    simp [semEvents] at he;rcases he with rfl | rfl | rfl | rfl
    ·exact .inl rfl
    ·exact bk_cell (H:=H) _ _ rfl
    ·exact bk_cell (H:=H) _ _ rfl
    ·exact .inr (.inl rfl)
   ·intro jx e he
    match jx,he with
    | 0,he=>simp [semEvents] at he; subst he; exact .inl rfl
    | 1,_=>exact .inr (by simp [deafBehind,semEvents])
    | 2,_=>exact .inr (by simp [deafBehind,semEvents])
    | 3,he=>simp [semEvents] at he; subst he; exact .inl rfl
    | jx+4,he=>simp [semEvents] at he
   ·intro tag' ht hw
    have hnb:=hw hmw hrun';have e3:tag' = .w3:=by
     rcases ht with rfl | ⟨_,rfl⟩
     ·cases tag' <;> first | rfl | exact hW3.elim | exact absurd rfl hnb
     ·rfl
    subst e3;simp only [if_true];exact .sema fun a ha=>by
     by_cases e:a=i
     ·subst e; rw [upd_same]
     ·rw [upd_ne D _ e]; exact hoth a ha e
  ·obtain ⟨g',w',es,hgo,⟨rfl,rfl⟩,hg'⟩:=hstep w (RW.refl w)
   exact idle hgo (.d4 hg') rfl (by omega) (by omega)
 | @quit q _ _ _ _ hw =>
  cases q with
  | zero=>rw [hw.1] at hrun; cases hrun
  | succ q =>
   rcases hw with ⟨hf,_⟩ | ⟨_,g',es,hmute,hstep,hq⟩
   ·rw [hf] at hrun; cases hrun
   ·have hbk:∀ e ∈ es,Bk H.Wg e:=fun e he=>bk_of_mute (hmute e he)
    have hno:∀ jx e,es[jx]?=some e→(MemAct.ofEvent e).touch?=none ∨ 0<deafBehind dd (es.extract 0 jx):=fun jx e he => .inl (touch_mute (hmute e (Array.mem_of_getElem? he)))
    refine book (hstep w) (.refl H.Wg w) hwg hbk hno (.quit hq) rfl (by omega) (by have:=hmode.same (i:=i) 0 (deafBehind dd es); rwa [hst] at this) (fun e=>(h.acq e).app fun i' r hi' hr => ?_) (.inr ⟨rfl,natT_lt w q⟩)
    by_cases e':i'=i
    ·subst e'; exact relBook (H:=H) hr hdk _ _ hbk hno
    ·exact relApp hr (by omega)
end
end Rn
end Go.Proofs.YtjcgklifabcfkaaGreat
