/-
  Texts that the law stands on, part 3.
-/
import Derived.Test.YtjcgklifabcfkaaGreatV1
import Derived.Test.YtjcgklifabcfkaaGreatV2
set_option maxRecDepth 100000
set_option linter.unusedVariables false
set_option linter.unusedSimpArgs false
namespace Go.Proofs.YtjcgklifabcfkaaGreat
namespace Rn
section
variable {C : Ctx} {r r' : Ren}
theorem block_iff (hw:∃ w v,WR C r w v) {a b a' b':Addr} (h:AR C r a a') (k:AR C r b b') (hr:¬ (C.RO a.block∧C.RO b.block)):(a'.block == b'.block)=(a.block == b.block):=by
 obtain ⟨w,v,hw⟩:=hw;have h1:=h.1; have k1:=k.1;by_cases e:a.block=b.block
 ·rw [e] at h1
  rw [hw.fn _ _ _ h1 k1,e,beq_self_eq_true,beq_self_eq_true]
 ·have:a'.block ≠ b'.block:=fun e'=>by
   rcases hw.inj _ _ _ h1 (by rw [e']; exact k1) with e2 | e2
   ·exact e e2
   ·exact hr e2
  rw [beq_false_of_ne e,beq_false_of_ne this]
theorem glob_iff (hw:∃ w v,WR C r w v) {a a':Addr} (h:AR C r a a') (hr:¬ C.RO a.block):(decide (a'.block<C.P.globals.size))=decide (a.block<C.Px.globals.size):=by
 obtain ⟨w,v,hw⟩:=hw;by_cases e:a.block<C.tb.globals.size
 ·have:=hw.glob _ _ h.1 hr (.inl e)
  rw [← this]; exact rfl
 ·have:¬ a'.block<C.tb.globals.size:=fun e'=>e (by rw [hw.glob _ _ h.1 hr (.inr e')]; exact e')
  have e1:decide (a.block<C.Px.globals.size)=false:=decide_eq_false e;have e2:decide (a'.block<C.P.globals.size)=false:=decide_eq_false this;rw [e1,e2]
theorem glob_ro (hw:∃ w v,WR C r w v) {a a':Addr} (h:AR C r a a') (hr:C.RO a.block):¬ a.block<C.Px.globals.size:=by
 obtain ⟨w,v,hw⟩:=hw;exact Nat.not_lt.2 (hw.winG _ _ h.1 hr)
theorem addr_iff (hw:∃ w v,WR C r w v) {a b a' b':Addr} (h:AR C r a a') (k:AR C r b b') (hr:¬ (C.RO a.block∧C.RO b.block)):(a' == b')=(a == b):=by
 have:=block_iff hw h k hr;obtain ⟨_,h2,h3⟩:=h;obtain ⟨_,k2,k3⟩:=k;rw [Bool.eq_iff_iff] at this ⊢;simp only [beq_iff_eq] at this ⊢;constructor
 ·intro e
  subst e;have:=this.1 rfl;cases a; cases b;simp_all
 ·intro e
  subst e;have:=this.2 rfl;cases a'; cases b';simp_all
theorem cellsOf_noT (hw:∃ w v,WR C r w v):C.Px.cellsOf C.noT=0:=by
 obtain ⟨w,v,hw⟩:=hw;unfold Program.cellsOf;rw [show C.Px.info? C.noT=none from hw.noInfo];rfl
theorem Sim.unsafeAdd (t : TypeId) {x x' y y' : Value} (h : VR C r x x') (k : VR C r y y') : Sim C r (VR C) (Builtin.unsafeAdd_ #[] t #[x, y]) (Builtin.unsafeAdd_ #[] t #[x', y']) := by
 have key : ∀ (p p' : Option Addr), OA C r p p' → Sim C r (VR C) (Builtin.unsafeAdd_ #[] t #[.pointer p, y]) (Builtin.unsafeAdd_ #[] t #[.pointer p', y']) := by
  intro p p' hp;unfold Builtin.unsafeAdd_;dsimp only;refine Sim.bind (Sim.asInt k) ?_;rintro r1 n _ h1 rfl;split
  ·match p, p', hp with
   | none, none, _ => exact Sim.never (Never.bind_left Never.halt)
   | some a, some b, ab =>
    refine Sim.bind (Sim.viewAt (h1 _ _ ab.1)) ?_;rintro r2 u u' h2 ⟨rfl, rfl⟩;exact Sim.pure (.ptr ((ab.mono h1).mono h2))
  ·split
   ·exact Sim.never (Never.bind_left Never.halt)
   ·match p, p', hp with
    | none, none, _ => exact Sim.halt
    | some a, some b, ab =>
     refine Sim.given fun hw => ?_
     refine Sim.bind (Sim.shape (h1 _ _ ab.1)) ?_;rintro r2 u u' h2 ⟨hs, hsame, hro⟩;by_cases hr : C.RO a.block
     ·obtain ⟨m, rfl⟩ := hro hr
      have e0 : cellAtBytes C.Px C.Px.depth C.noT (m / C.Px.cellsOf C.noT) a.off n = none := by
       simp [cellAtBytes, cellsOf_noT hw]
      refine Sim.never ?_;show Never C.Px (Go.program >>= fun p => match cellAtBytes p p.depth C.noT (m / p.cellsOf C.noT) a.off n with | some off => Pure.pure (Value.pointer (some { a with off })) | none => unsupported (.unsafePointer "Add"))
      refine ⟨fun w es x w' es' e => ?_, fun w es hh w' es' e => ?_, (NI.bind NI.program fun p => (by split <;> first | exact NI.pure | exact NI.halt)).2⟩
      ·change (match cellAtBytes C.Px C.Px.depth C.noT (m / C.Px.cellsOf C.noT) a.off n with | some off => Pure.pure (Value.pointer (some { a with off })) | none => unsupported (.unsafePointer "Add") : Sem Value).runT C.Px w es = _ at e
       rw [e0] at e; cases e
      ·change (match cellAtBytes C.Px C.Px.depth C.noT (m / C.Px.cellsOf C.noT) a.off n with | some off => Pure.pure (Value.pointer (some { a with off })) | none => unsupported (.unsafePointer "Add") : Sem Value).runT C.Px w es = _ at e
       rw [e0] at e; cases e; rfl
     obtain rfl := hsame hr;have hoff : b.off = a.off := by obtain ⟨w, v, hw⟩ := hw; rw [ab.2.1, hw.shz _ hr]; rfl
     cases u with
     | none => exact Sim.halt
     | some s =>
      obtain ⟨e, cells⟩ := s;refine Sim.bind Sim.program ?_;rintro r3 q q' h3 ⟨rfl, rfl⟩;have hb : cellAtBytes C.Px C.Px.depth e (cells / C.Px.cellsOf e) a.off n = cellAtBytes C.P C.P.depth e (cells / C.P.cellsOf e) b.off n := by rw [hoff]; exact cellAtBytes_C _ _ _ _ _
      rw [hb];cases cellAtBytes C.P C.P.depth e (cells / C.P.cellsOf e) b.off n with
      | none => exact Sim.halt
      | some off =>
       have h0 : C.sh a.block = 0 := by obtain ⟨w, v, hw⟩ := hw; exact hw.shz _ hr
       exact Sim.pure (.ptr ⟨h3 _ _ (h2 _ _ (h1 _ _ ab.1)), by show off = off + C.sh a.block; rw [h0]; rfl, ab.2.2⟩)
 cases h with
 | ptr0 => exact key none none trivial
 | ptr ab => exact key (some _) (some _) ab
 | _ => exact Sim.halt
theorem Sim.asNumber {a b:Addr} (ab:AR C r a b) (l:Bool):Sim C r (VR C) (Go.asNumber a l) (Go.asNumber b l):=by
 unfold Go.asNumber;refine Sim.bind (Sim.new (o := .number a l) (o' := .number b l) fun x y => .number l (ab.mono (Ren.sub_ext _ _ _))) ?_;rintro r1 x y h1 ⟨xy,hsh⟩;exact Sim.pure (.ptr ⟨xy,by simp [hsh],rfl⟩)
def mvRest (t:TypeId) (x y:Value):Sem Value :=
 match x with
 | .pointer (some n)=>(Go.behindNumber n >>= fun z=>Builtin.unsafeAdd_ #[] t #[.pointer (some z.1),y] >>= fun v=>match v with
  | .pointer (some b)=>Go.asNumber b z.2
  | v=>Pure.pure v)
 | _=>Builtin.unsafeAdd_ #[] t #[x,y]
theorem Sim.movedNumber (t:TypeId) {x x' y y':Value} (h:VR C r x x') (k:VR C r y y'):Sim C r (VR C) (Go.movedNumber t x y) (Go.movedNumber t x' y'):=by
 unfold Go.movedNumber;refine Sim.bind (Sim.under t) ?_;rintro r1 d _ h1 ⟨rfl,_⟩;replace h:=h.mono h1
 replace k:=k.mono h1
 have key:Sim C r1 (VR C) (mvRest t x y) (mvRest t x' y'):=by
  cases h with
  | ptr ab =>
   refine Sim.bind (Sim.behind ab) ?_;rintro r2 ⟨a,l⟩ ⟨b,l'⟩ h2 ⟨ab',e,_⟩;cases e;refine Sim.bind (Sim.unsafeAdd t (.ptr ab') (k.mono h2)) ?_;intro r3 u u' h3 hu;cases hu with
   | ptr ab''=>exact Sim.asNumber ab'' _
   | _=>refine Sim.pure ?_; constructor <;> assumption
  | ptr0=>exact Sim.unsafeAdd t .ptr0 k
  | _=>exact Sim.halt
 cases d with
 | unsafePointer=>exact Sim.never (Never.bind_left Never.halt)
 | _=>cases h <;> exact key
theorem Sim.twoPlaces {a b a' b':Addr} (h:AR C r a a') (k:AR C r b b'):Sim C r (fun _ x y=>x=y) (Op.twoPlaces a b) (Op.twoPlaces a' b'):=by
 refine Sim.given fun hw => ?_
 unfold Op.twoPlaces;refine Sim.bind Sim.program ?_;rintro r1 p q h1 ⟨rfl,rfl⟩;by_cases hra:C.RO a.block
 ·have hg:=glob_ro hw h hra
  have:(a.block != b.block || decide (a.block ≥ C.Px.globals.size))=true:=by
   have:decide (a.block ≥ C.Px.globals.size)=true:=decide_eq_true (Nat.not_lt.1 hg);rw [this,Bool.or_true]
  dsimp only;rw [this];exact Sim.never (Never.bind_left Never.halt)
 by_cases hrb:C.RO b.block
 ·have:(a.block != b.block || decide (a.block ≥ C.Px.globals.size))=true:=by
   have:(a.block != b.block)=true:=by
    rw [bne_iff_ne]; intro e; exact hra (by rw [e]; exact hrb)
   rw [this,Bool.true_or]
  dsimp only;rw [this];exact Sim.never (Never.bind_left Never.halt)
 have e:(a'.block != b'.block || decide (a'.block ≥ C.P.globals.size))=(a.block != b.block || decide (a.block ≥ C.Px.globals.size)):=by
  have e1:=block_iff hw h k (fun x=>hra x.1);have e2:=glob_iff hw h hra;simp only [bne,e1,ge_iff_le];congr 1
  rw [Bool.eq_iff_iff,decide_eq_true_eq,decide_eq_true_eq,← Nat.not_lt,← Nat.not_lt];rw [Bool.eq_iff_iff,decide_eq_true_eq,decide_eq_true_eq] at e2;rw [e2]
 dsimp only;rw [e];split
 ·exact Sim.never (Never.bind_left Never.halt)
 ·refine Sim.bind (Sim.byteOf (h.mono h1) hra) ?_
  rintro r2 x _ h2 rfl;refine Sim.bind (Sim.byteOf ((k.mono h1).mono h2) hrb) ?_;rintro r3 y _ h3 rfl;exact Sim.pure rfl
theorem Sim.addrSub (k:IntKind) {a b a' b':Addr} (h:AR C r a a') (k':AR C r b b'):Sim C r (VR C) (Op.addrSub k a b) (Op.addrSub k a' b'):=by
 unfold Op.addrSub;refine Sim.bind (Sim.twoPlaces h k') ?_;rintro r1 ⟨x,y⟩ _ h1 rfl;exact Sim.pure (.int _ _)
theorem Sim.addrCmp (op:BinOp) {a b a' b':Addr} (h:AR C r a a') (k':AR C r b b'):Sim C r (VR C) (Op.addrCmp op a b) (Op.addrCmp op a' b'):=by
 unfold Op.addrCmp;refine Sim.bind (Sim.twoPlaces h k') ?_;rintro r1 ⟨x,y⟩ _ h1 rfl;dsimp only;split <;> first | exact Sim.pure (.bool _) | exact Sim.halt
theorem Sim.addrMod (k : IntKind) {a a' : Addr} (h : AR C r a a') (n : Int) : Sim C r (VR C) (Op.addrMod k a n) (Op.addrMod k a' n) := by
 refine Sim.given fun hw => ?_
 unfold Op.addrMod;refine Sim.bind (Sim.shape h.1) ?_;rintro r1 x x' h1 ⟨hs, hsame, hro⟩;by_cases hr : C.RO a.block
 ·obtain ⟨m, rfl⟩ := hro hr
  refine Sim.never (Never.bind_left ?_);obtain ⟨w, v, hw⟩ := hw;have e0 : C.Px.info? C.noT = none := hw.noInfo;refine ⟨fun w es x w' es' e => ?_, NI.info⟩;unfold typeInfo at e;change (match C.Px.info? C.noT with | some i => Pure.pure i | none => stuck "no such type" : Sem TypeInfo).runT C.Px w es = _ at e
  rw [e0] at e;cases e
 obtain rfl := hsame hr;cases x with
 | none => exact Sim.halt
 | some s =>
  obtain ⟨e, _⟩ := s;refine Sim.bind (Sim.info e) ?_;rintro r2 i _ h2 ⟨rfl, _⟩;dsimp only;split
  ·exact Sim.never (Never.bind_left Never.halt)
  ·refine Sim.bind (Sim.byteOf ((h.mono h1).mono h2) hr) ?_
   rintro r3 y _ h3 rfl;exact Sim.pure (.int _ _)
end
end Rn
namespace Rn
def isCC : TypeDesc → Bool
 | .named "sync.copyChecker" _ => true
 | _ => false
def eqOk (tb:Tables):Nat→TypeId→Bool
 | 0,_=>false
 | d+1,t=>match (⟨tb,#[]⟩:Program).underlying t with
  | some .bool | some (.slice _)=>true
  | some (.int _)=>match (⟨tb,#[]⟩:Program).info? t with
   | some i => !isCC i.desc
   | none=>true
  | some (.struct fs)=>fs.toList.all fun f=>eqOk tb d f.type
  | _=>false
section
variable {C : Ctx} {r r' : Ren}
theorem Sim.forInL {α β:Type} {R:Ren→β→β→Prop} {f g:α→β→Sem (ForInStep β)} (hR:∀ r r' x y,Sub r r'→R r x y→R r' x y) :
  ∀ {l:List α} {r:Ren} {b b':β},R r b b' →
  (∀ r' a b b',a ∈ l→Sub r r'→R r' b b'→Sim C r' (fun s x y=>(∃ u v,x = .yield u∧y = .yield v∧R s u v) ∨ (∃ u v,x = .done u∧y = .done v∧R s u v)) (f a b) (g a b')) →
  Sim C r R (forIn l b f) (forIn l b' g)
 | [],r,b,b',hb,_=>by rw [List.forIn_nil,List.forIn_nil]; exact Sim.pure hb
 | a :: l,r,b,b',hb,h=>by
  rw [List.forIn_cons,List.forIn_cons];refine Sim.bind (h r a b b' (by simp) (Sub.refl _) hb) ?_;rintro r1 x y h1 (⟨u,v,rfl,rfl,huv⟩ | ⟨u,v,rfl,rfl,huv⟩)
  ·exact Sim.forInL hR (l:=l) huv fun r' a b b' ha hs hb=>h r' a b b' (by simp [ha]) (h1.trans hs) hb
  ·exact Sim.pure huv
def intPtr (t : TypeId) (a b : Addr) : Sem Bool := do
 let (a, b) := ((← behindNumber a).1, (← behindNumber b).1)
 if a.block == b.block && a.block < (← program).globals.size then return (← byteOf a) == (← byteOf b)
 let .named "sync.copyChecker" _ := (← typeInfo t).desc | unsupported .addressObserved
 if a == b then pure true else unsupported .addressObserved
theorem Sim.intPtr {t : TypeId} (okc : ∀ i, (⟨C.tb, #[]⟩ : Program).info? t = some i → isCC i.desc = false) {a a' b b' : Addr} (ab : AR C r a a') (cd : AR C r b b') :
  Sim C r (fun _ u v => u = v ∧ ¬ (C.RO a.block ∧ C.RO b.block)) (Rn.intPtr t a b) (Rn.intPtr t a' b') := by
 unfold Rn.intPtr;refine Sim.bind (Sim.behind ab) ?_;rintro r2 ⟨a1, l1⟩ ⟨b1, l1'⟩ h2 ⟨ab1, e1, q1⟩;refine Sim.bind (Sim.behind (cd.mono h2)) ?_;rintro r3 ⟨a2, l2⟩ ⟨b2, l2'⟩ h3 ⟨ab2, e2, _⟩;have ab1 := ab1.mono h3;refine Sim.given fun hw => ?_
 refine Sim.bind Sim.program ?_;rintro r4 p q h4 ⟨rfl, rfl⟩;have rest : Never C.Px (typeInfo t >>= fun i => match i.desc with
   | .named "sync.copyChecker" _ => if (a1 == a2) = true then Pure.pure true else unsupported .addressObserved
   | _ => unsupported .addressObserved) := by
  refine ⟨fun w es x w' es' e => ?_, NI.bind NI.info fun i => ?_⟩
  ·unfold typeInfo at e
   change ((match C.Px.info? t with | some i => Pure.pure i | none => stuck "no such type") >>= fun i : TypeInfo => match i.desc with
    | .named "sync.copyChecker" _ => if (a1 == a2) = true then Pure.pure true else unsupported .addressObserved
    | _ => unsupported .addressObserved : Sem Bool).runT C.Px w es = _ at e
   have hi : C.Px.info? t = (⟨C.tb, #[]⟩ : Program).info? t := rfl;rw [hi] at e;cases hi' : (⟨C.tb, #[]⟩ : Program).info? t with
   | none => rw [hi'] at e; cases e
   | some i =>
    rw [hi'] at e;have ok := okc i hi';change (match i.desc with
     | .named "sync.copyChecker" _ => if (a1 == a2) = true then Pure.pure true else unsupported .addressObserved
     | _ => unsupported .addressObserved : Sem Bool).runT C.Px w es = _ at e
    revert e ok
    generalize i.desc = dd;intro ok e;split at e
    ·simp [isCC] at ok
    ·cases e
  ·split
   ·exact NI.ite NI.pure NI.halt
   ·exact NI.halt
 by_cases hr : C.RO a1.block ∨ C.RO a2.block
 ·have : (a1.block == a2.block && decide (a1.block < C.Px.globals.size)) = false := by
   rw [Bool.and_eq_false_imp];intro he;rw [beq_iff_eq] at he;have hra : C.RO a1.block := hr.elim id (fun h => by rw [he]; exact h);exact decide_eq_false (glob_ro hw ab1 hra)
  dsimp only;rw [this];exact Sim.never rest
 have hr1 : ¬ C.RO a1.block := fun h => hr (.inl h)
 have hr2 : ¬ C.RO a2.block := fun h => hr (.inr h)
 have e : (b1.block == b2.block && decide (b1.block < C.P.globals.size)) = (a1.block == a2.block && decide (a1.block < C.Px.globals.size)) := by rw [block_iff hw ab1 ab2 (fun x => hr1 x.1), glob_iff hw ab1 hr1]
 dsimp only at e ⊢;rw [e];split
 ·refine Sim.bind (Sim.byteOf (ab1.mono h4) hr1) ?_
  rintro r5 u _ h5 rfl;refine Sim.bind (Sim.byteOf ((ab2.mono h4).mono h5) hr2) ?_;rintro r6 u' _ h6 rfl;exact Sim.pure ⟨rfl, fun hh => by cases q1 hh.1; exact hr1 hh.1⟩
 ·exact Sim.never rest
theorem alike_C:∀ (n:Nat) (t u:TypeId),C.Px.alikeButTags n t u=C.P.alikeButTags n t u
 | 0,_,_=>rfl
 | n+1,t,u=>by
  have ih:C.Px.alikeButTags n=C.P.alikeButTags n:=by funext t u; exact alike_C n t u
  simp only [Program.alikeButTags,ih];rfl
theorem held_C (t:TypeId):C.Px.stoodInHeld t=C.P.stoodInHeld t:=by
 have h:C.Px.stoodInAs t=C.P.stoodInAs t:=by
  have ih:C.Px.alikeButTags C.Px.depth=C.P.alikeButTags C.P.depth:=by funext t u; exact alike_C _ t u
  simp only [Program.stoodInAs,ih];rfl
 simp only [Program.stoodInHeld,h];rfl
theorem guard_tb (tb:Tables) (f g:Array Func):∀ (d:Nat) (t:TypeId),(⟨tb,f⟩:Program).eqGuardType d t=(⟨tb,g⟩:Program).eqGuardType d t
 | 0,_=>rfl
 | n+1,t=>by
  have ih:(⟨tb,f⟩:Program).eqGuardType n=(⟨tb,g⟩:Program).eqGuardType n:=by funext t; exact guard_tb tb f g n t
  simp only [Program.eqGuardType,ih];rfl
theorem Sim.equalIn:∀ (d n:Nat) {t:TypeId} {r:Ren} {x x' y y':Value},eqOk C.tb n t=true→VR C r x x'→VR C r y y'→Sim C r (fun _ a b=>a=b) (Op.equalIn d t x y) (Op.equalIn d t x' y')
 | 0,n,t,r,x,x',y,y',ok,h,k=>Sim.halt
 | d+1,0,t,r,x,x',y,y',ok,h,k=>by cases ok
 | d+1,n+1,t,r,x,x',y,y',ok,h,k=>by
  unfold Op.equalIn;refine Sim.bind (Sim.under t) ?_;rintro r1 ds _ h1 ⟨rfl,hd⟩;have hd':(⟨C.tb,#[]⟩:Program).underlying t=some ds:=hd;simp only [eqOk,hd'] at ok;replace h:=h.mono h1
  replace k:=k.mono h1
  cases ds with
  | bool=>cases h <;> first | exact Sim.halt | (cases k <;> first | exact Sim.halt | exact Sim.pure rfl)
  | int ik =>
   cases h with
   | int a n =>
    cases k with
    | int b m =>
     dsimp only;split
     ·exact Sim.pure rfl
     ·exact Sim.halt
    | ptr ab=>obtain (_ | n) | n:=n <;> first | exact Sim.pure rfl | exact Sim.halt
    | _=>exact Sim.halt
   | ptr ab =>
    cases k with
    | int b m=>obtain (_ | m) | m:=m <;> first | exact Sim.pure rfl | exact Sim.halt
    | ptr cd =>
     refine (Sim.intPtr (t:=t) (fun i hi => ?_) ab cd).mono fun r' u v _ h=>h.1
     have hi':(⟨C.tb,#[]⟩:Program).info? t=some i:=hi;simp only [hi',Bool.not_eq_true'] at ok;exact ok
    | _=>exact Sim.halt
   | ptr0=>cases k <;> exact Sim.halt
   | _=>cases k <;> exact Sim.halt
  | slice e =>
   cases h with
   | sl0 a b=>cases k <;> first | exact Sim.pure rfl | exact Sim.halt
   | slE a b=>cases k <;> first | exact Sim.pure rfl | exact Sim.halt
   | sl a b ab=>cases k <;> first | exact Sim.pure rfl | exact Sim.halt
   | _=>cases k <;> exact Sim.halt
  | struct fields =>
   cases h with
   | agg e1 g1 =>
    cases k with
    | agg e2 g2 =>
     refine Sim.bind Sim.program ?_;rintro r2 p q h2 ⟨rfl,rfl⟩;dsimp only;rw [held_C t];split
     ·exact Sim.never (Never.bind_left Never.halt)
     ·rw [← Array.forIn_toList,← Array.forIn_toList]
      refine Sim.bind (Sim.forInL (R:=fun _ a b=>a=b) (fun _ _ _ _ _ e=>e) (l:=fields.toList) rfl ?_) ?_
      ·rintro r3 f b _ hf h3 rfl
       split
       ·rename_i hn
        have v1:VAll C r3 _ _:=((VAll.mk e1 g1:VAll C r1 _ _).mono h2).mono h3;have v2:VAll C r3 _ _:=((VAll.mk e2 g2:VAll C r1 _ _).mono h2).mono h3;refine Sim.bind (Sim.part v1 _ _) ?_;intro r4 u u' h4 hu;refine Sim.bind (Sim.part (v2.mono h4) _ _) ?_;intro r5 z z' h5 hz;refine Sim.bind (Sim.equalIn d n (List.all_eq_true.1 ok f hf) (hu.mono h5) hz) ?_;rintro r6 bb _ h6 rfl;split
        ·exact Sim.pure (.inr ⟨_,_,rfl,rfl,rfl⟩)
        ·exact Sim.pure (.inl ⟨_,_,rfl,rfl,rfl⟩)
       ·exact Sim.pure (.inl ⟨_,_,rfl,rfl,rfl⟩)
      ·rintro r3 z _ h3 rfl
       split <;> exact Sim.pure rfl
    | _=>exact Sim.halt
   | _=>cases k <;> exact Sim.halt
  | _=>cases ok
def guardOk (tb:Tables) (t:TypeId):Bool := !((⟨tb,#[]⟩:Program).eqGuardType (⟨tb,#[]⟩:Program).depth t)
theorem Sim.eqGuard {t:TypeId} (ok:guardOk C.tb t=true) (op:BinOp) (xo yo:Operand) {x x' y y':Value} (h:VR C r x x') (k:VR C r y y') :
  Sim C r (fun _ _ _=>True) (Go.eqGuard op t xo yo x y) (Go.eqGuard op t xo yo x' y'):=by
 have e1:C.Px.eqGuardType C.Px.depth t=false:=by
  have:=guard_tb C.tb C.fx #[] C.Px.depth t;rw [show C.Px.eqGuardType C.Px.depth t=(⟨C.tb,C.fx⟩:Program).eqGuardType C.Px.depth t from rfl,this];show (⟨C.tb,#[]⟩:Program).eqGuardType (⟨C.tb,#[]⟩:Program).depth t=false
  simpa [guardOk] using ok
 have e2:C.P.eqGuardType C.P.depth t=false:=by
  have:=guard_tb C.tb C.fs #[] C.P.depth t;rw [show C.P.eqGuardType C.P.depth t=(⟨C.tb,C.fs⟩:Program).eqGuardType C.P.depth t from rfl,this];show (⟨C.tb,#[]⟩:Program).eqGuardType (⟨C.tb,#[]⟩:Program).depth t=false
  simpa [guardOk] using ok
 have agg:∀ (op:BinOp) (xs ys xs' ys':Array Value),op = .eql ∨ op = .neq→Sim C r (fun _ _ _=>True) (Go.eqGuard op t xo yo (.agg xs) (.agg ys)) (Go.eqGuard op t xo yo (.agg xs') (.agg ys')):=by
  intro op xs ys xs' ys' ho;rcases ho with rfl | rfl <;> unfold Go.eqGuard <;> simp only [Bool.not_true,Bool.false_eq_true,if_false]
  all_goals
   refine Sim.bind Sim.program ?_;rintro r1 p q h1 ⟨rfl,rfl⟩;refine Sim.bind Sim.program ?_;rintro r2 p q h2 ⟨rfl,rfl⟩;rw [e1,e2];exact Sim.pure trivial
 cases op with
 | eql=>cases h <;> cases k <;> first | exact agg _ _ _ _ _ (.inl rfl) | exact Sim.pure trivial
 | neq=>cases h <;> cases k <;> first | exact agg _ _ _ _ _ (.inr rfl) | exact Sim.pure trivial
 | _=>exact Sim.pure trivial
theorem Sim.eqGuard' {t:TypeId} (op:BinOp) (ho:op ≠ .eql∧op ≠ .neq) (xo yo:Operand) {x x' y y':Value}:Sim C r (fun _ _ _=>True) (Go.eqGuard op t xo yo x y) (Go.eqGuard op t xo yo x' y'):=by
 cases op with
 | eql=>exact absurd rfl ho.1
 | neq=>exact absurd rfl ho.2
 | _=>exact Sim.pure trivial
theorem Sim.equal {n:Nat} {t:TypeId} {x x' y y':Value} (ok:eqOk C.tb n t=true) (h:VR C r x x') (k:VR C r y y'):Sim C r (fun _ a b=>a=b) (Op.equal t x y) (Op.equal t x' y'):=Sim.equalIn Op.maxDepth n ok h k
def isEq:BinOp→Bool
 | .eql | .neq=>true
 | _=>false
theorem Sim.movedPointer (t:TypeId) {x x' y y':Value} (h:VR C r x x') (k:VR C r y y'):Sim C r (VR C) (Go.movedPointer t x y) (Go.movedPointer t x' y'):=by
 unfold Go.movedPointer;cases h with
 | ptr ab =>
  refine Sim.bind (Sim.numberAt ab.1) ?_;rintro r1 u v h1 ⟨huv,_⟩;match u,v,huv with
  | none,none,_=>exact Sim.unsafeAdd t (.ptr (ab.mono h1)) (k.mono h1)
  | some _,some _,_=>exact Sim.never (Never.bind_left Never.halt)
 | ptr0=>exact Sim.unsafeAdd t .ptr0 k
 | _=>exact Sim.halt
theorem Sim.ptrAdd (t:TypeId) {x x' y y':Value} (h:VR C r x x') (k:VR C r y y') :
  Sim C r (VR C) (underlying t >>= fun d=>if (match d with | .unsafePointer=>true | _=>false) then Go.movedPointer t x y else Go.movedNumber t x y)
   (underlying t >>= fun d=>if (match d with | .unsafePointer=>true | _=>false) then Go.movedPointer t x' y' else Go.movedNumber t x' y'):=by
 refine Sim.bind (Sim.under t) ?_;rintro r1 d _ h1 ⟨rfl,_⟩;cases d <;> first | exact Sim.movedPointer t (h.mono h1) (k.mono h1) | exact Sim.movedNumber t (h.mono h1) (k.mono h1)
theorem Sim.two {α:Type} {Q:Ren→α→α→Prop} {a a' b b':Addr} (h:AR C r a a') (k:AR C r b b') {f:Addr→Addr→Sem α} (hf:∀ r' x x' y y',AR C r' x x'→AR C r' y y'→Sim C r' Q (f x y) (f x' y')) :
  Sim C r Q (behindNumber a >>= fun u=>behindNumber b >>= fun v=>f u.1 v.1) (behindNumber a' >>= fun u=>behindNumber b' >>= fun v=>f u.1 v.1):=by
 refine Sim.bind (Sim.behind h) ?_;rintro r1 u u' h1 ⟨hu,_,_⟩;refine Sim.bind (Sim.behind (k.mono h1)) ?_;rintro r2 v v' h2 ⟨hv,_,_⟩;exact hf r2 _ _ _ _ (hu.mono h2) hv
theorem Sim.ptrMod (k:IntKind) {a a':Addr} (h:AR C r a a') (n:Int):Sim C r (VR C) (behindNumber a >>= fun u=>Op.addrMod k u.1 n) (behindNumber a' >>= fun u=>Op.addrMod k u.1 n):=by
 refine Sim.bind (Sim.behind h) ?_;rintro r1 u u' h1 ⟨hu,_,_⟩;exact Sim.addrMod k hu n
theorem Sim.binInt (op:BinOp) (t:TypeId) (k k':IntKind) (a b:Int):Sim C r (VR C) (Go.binOp op t (.int k a) (.int k' b)) (Go.binOp op t (.int k a) (.int k' b)):=by
 cases op
 case shl=>exact Sim.shift .shl k a k' b
 case shr=>exact Sim.shift .shr k a k' b
 all_goals
  unfold Go.binOp;dsimp only;split
  ·exact Sim.halt
  ·first | exact Sim.intArith _ _ _ _ | exact Sim.intDiv _ _ _ _ | exact Sim.intBits _ _ _ _ | exact Sim.intCmp _ _ _
set_option maxHeartbeats 4000000 in
theorem Sim.binOp {n:Nat} (op:BinOp) {t:TypeId} (ok:isEq op=true→eqOk C.tb n t=true) {x x' y y':Value} (h:VR C r x x') (k:VR C r y y'):Sim C r (VR C) (Go.binOp op t x y) (Go.binOp op t x' y'):=by
 have eqs:∀ b:Bool,isEq op=true→Sim C r (VR C) (Op.equal t x y >>= fun z=>Pure.pure (.bool (if b then z else !z))) (Op.equal t x' y' >>= fun z=>Pure.pure (.bool (if b then z else !z))):=by
  intro b ho;refine Sim.bind (Sim.equal (ok ho) h k) ?_;rintro r1 z _ h1 rfl;exact Sim.pure (.bool _)
 cases h with
 | int a n =>
  cases k with
  | int b m=>exact Sim.binInt op t _ _ _ _
  | ptr0 =>
   cases op <;> first | exact Sim.halt | exact eqs true rfl | exact eqs false rfl | exact Sim.movedNumber t .ptr0 (.int _ _)
  | ptr cd =>
   cases op <;> first | exact Sim.halt | exact eqs true rfl | exact eqs false rfl | exact Sim.movedNumber t (.ptr cd) (.int _ _) | exact Sim.ptrMod _ cd _
  | _=>cases op <;> first | exact Sim.halt | exact eqs true rfl | exact eqs false rfl
 | ptr0 =>
  cases k with
  | int b m=>cases op <;> first | exact Sim.halt | exact eqs true rfl | exact eqs false rfl | exact Sim.ptrAdd t .ptr0 (.int _ _) | exact Sim.movedNumber t .ptr0 (.int _ _)
  | _=>cases op <;> first | exact Sim.halt | exact eqs true rfl | exact eqs false rfl
 | ptr ab =>
  cases k with
  | int b m=>cases op <;> first | exact Sim.halt | exact eqs true rfl | exact eqs false rfl | exact Sim.ptrAdd t (.ptr ab) (.int _ _) | exact Sim.movedNumber t (.ptr ab) (.int _ _) | exact Sim.ptrMod _ ab _
  | ptr cd=>cases op <;> first | exact Sim.halt | exact eqs true rfl | exact eqs false rfl | exact Sim.two ab cd (f:=Op.addrSub .u64) (fun r' _ _ _ _ u v=>Sim.addrSub .u64 u v) | exact Sim.two ab cd (f:=Op.addrCmp _) (fun r' _ _ _ _ u v=>Sim.addrCmp _ u v)
  | _=>cases op <;> first | exact Sim.halt | exact eqs true rfl | exact eqs false rfl
 | _=>cases k <;> cases op <;> first | exact Sim.halt | exact eqs true rfl | exact eqs false rfl
end
end Rn
namespace Rn
section
variable {C : Ctx} {r r' : Ren}
def ELs (C:Ctx) (r:Ren):List MapEntry→List MapEntry→Prop
 | [],[]=>True
 | a :: xs,b :: ys=>ER C r a b∧ELs C r xs ys
 | _,_=>False
theorem ELs.of_get:∀ {xs ys:List MapEntry},xs.length=ys.length→(∀ (i:Nat) x y,xs[i]?=some x→ys[i]?=some y→ER C r x y)→ELs C r xs ys
 | [],[],_,_=>trivial
 | [],_ :: _,h,_=>by simp at h
 | _ :: _,[],h,_=>by simp at h
 | x :: xs,y :: ys,h,k=>⟨k 0 x y rfl rfl,ELs.of_get (by simpa using h) fun i a b ha hb=>k (i+1) a b (by simpa using ha) (by simpa using hb)⟩
theorem ELs.mono (h:Sub r r'):∀ {xs ys:List MapEntry},ELs C r xs ys→ELs C r' xs ys
 | [],[],_=>trivial
 | a :: xs,b :: ys,k=>⟨ER.mono h k.1,ELs.mono h k.2⟩
 | [],_ :: _,k=>k.elim
 | _ :: _,[],k=>k.elim
theorem EAll.toList {es es':Array MapEntry} (h:EAll C r es es'):ELs C r es.toList es'.toList:=ELs.of_get (by simpa using h.size) fun i x y hx hy=>h.get i x y (by simpa using hx) (by simpa using hy)
theorem EAll.get? {xs ys:Array MapEntry} (h:EAll C r xs ys) {i:Nat} {x:MapEntry} (hx:xs[i]?=some x):∃ y,ys[i]?=some y∧ER C r x y:=by
 have hi:=(Array.getElem?_eq_some_iff.1 hx).1;have hj:i<ys.size:=h.size ▸ hi;exact ⟨ys[i],Array.getElem?_eq_getElem hj,h.get i _ _ hx (Array.getElem?_eq_getElem hj)⟩
theorem EAll.push {xs ys:Array MapEntry} (h:EAll C r xs ys) {v w:MapEntry} (hv:ER C r v w):EAll C r (xs.push v) (ys.push w):=by
 refine ⟨by simp [h.size],fun i x y hx hy => ?_⟩;rw [Array.getElem?_push] at hx hy;rw [h.size] at hx;split at hx
 ·simp_all
 ·rename_i hne
  rw [if_neg hne] at hy;exact h.get i x y hx hy
theorem EAll.modify {xs ys:Array MapEntry} (h:EAll C r xs ys) (i:Nat) {f g:MapEntry→MapEntry} (hv:∀ x y,ER C r x y→ER C r (f x) (g y)):EAll C r (xs.modify i f) (ys.modify i g):=by
 refine ⟨by simp [h.size],fun j x y hx hy => ?_⟩;rw [Array.getElem?_modify] at hx hy;split at hx
 ·rename_i e
  rw [if_pos e] at hy;cases h1:xs[j]? with
  | none=>rw [h1] at hx; cases hx
  | some u =>
   obtain ⟨z,hz,huz⟩:=h.get? h1;rw [h1] at hx; rw [hz] at hy;cases hx; cases hy;exact hv _ _ huz
 ·rename_i e
  rw [if_neg e] at hy;exact h.get j x y hx hy
theorem EAll.erase {xs ys:Array MapEntry} (h:EAll C r xs ys) (i:Nat):EAll C r (xs.eraseIdxIfInBounds i) (ys.eraseIdxIfInBounds i):=by
 unfold Array.eraseIdxIfInBounds;by_cases hi:i<xs.size
 ·have hj:i<ys.size:=h.size ▸ hi
  rw [dif_pos hi,dif_pos hj];refine ⟨by simp [h.size],fun j x y hx hy => ?_⟩;rw [Array.getElem?_eraseIdx] at hx hy;split at hx
  ·rename_i hj; rw [if_pos hj] at hy; exact h.get j x y hx hy
  ·rename_i hj; rw [if_neg hj] at hy; exact h.get _ x y hx hy
 ·have hj:¬ i<ys.size:=fun hj=>hi (h.size ▸ hj)
  rw [dif_neg hi,dif_neg hj];exact h
def keyInt (tb:Tables) (t:TypeId):Bool:=match (⟨tb,#[]⟩:Program).underlying t with
 | some (.map k e)=>((match (⟨tb,#[]⟩:Program).underlying k with | some (.int _)=>true | _=>false) && eqOk tb 1 k) && zeroOk tb e
 | _=>false
theorem keyInt_out {t k e:TypeId} (h:keyInt C.tb t=true) (hd:C.P.underlying t=some (.map k e)):(∃ ik,C.P.underlying k=some (.int ik))∧zeroOk C.tb e=true∧eqOk C.tb 1 k=true:=by
 have hd':(⟨C.tb,#[]⟩:Program).underlying t=some (.map k e):=hd;simp only [keyInt,hd',Bool.and_eq_true] at h;obtain ⟨⟨h1,h3⟩,h2⟩:=h;have:∃ ik,(⟨C.tb,#[]⟩:Program).underlying k=some (.int ik):=by
  revert h1
  cases (⟨C.tb,#[]⟩:Program).underlying k with
  | none=>intro h; cases h
  | some d=>cases d <;> intro h <;> first | exact ⟨_,rfl⟩ | cases h
 obtain ⟨ik,hk⟩:=this;exact ⟨⟨ik,hk⟩,h2,h3⟩
def KF (C:Ctx) (x y:Value):Prop:=∀ a b,x = .pointer (some a)→y = .pointer (some b)→¬ (C.RO a.block∧C.RO b.block)
theorem Sim.equalKey {kt:TypeId} {ik:IntKind} (hk:C.P.underlying kt=some (.int ik)) (ok:eqOk C.tb 1 kt=true) {x x' y y':Value} (h:VR C r x x') (k:VR C r y y') :
  Sim C r (fun _ a b=>a=b∧(a=true→KF C x y∧∀ c,y ≠ .agg c)) (Op.equal kt x y) (Op.equal kt x' y'):=by
 by_cases hp:∃ a b,x = .pointer (some a)∧y = .pointer (some b)
 ·obtain ⟨a,b,rfl,rfl⟩:=hp
  cases h with
  | @ptr _ a' ab =>
   cases k with
   | @ptr _ b' cd =>
    have okc:∀ i,(⟨C.tb,#[]⟩:Program).info? kt=some i→isCC i.desc=false:=by
     intro i hi;have hk':(⟨C.tb,#[]⟩:Program).underlying kt=some (.int ik):=hk;simpa only [eqOk,hk',hi,Bool.not_eq_true'] using ok
    show Sim C r _ (Op.equalIn (9999+1) kt _ _) (Op.equalIn (9999+1) kt _ _)
    unfold Op.equalIn;refine Sim.bind (Sim.under kt) ?_;rintro r1 d _ h1 ⟨rfl,hd⟩;rw [hk] at hd;cases hd;refine (Sim.intPtr okc (ab.mono h1) (cd.mono h1)).mono fun r' u v _ h=>⟨h.1,fun _=>⟨fun a b ea eb => ?_,fun c e=>by cases e⟩⟩
    cases ea; cases eb;exact h.2
 ·by_cases hy:∃ c,y = .agg c
  ·obtain ⟨c,rfl⟩:=hy
   cases k with
   | agg e1 g1 =>
    show Sim C r _ (Op.equalIn (9999+1) kt _ _) (Op.equalIn (9999+1) kt _ _)
    unfold Op.equalIn;refine Sim.bind (Sim.under kt) ?_;rintro r1 d _ h1 ⟨rfl,hd⟩;rw [hk] at hd;cases hd;cases h <;> exact Sim.halt
  ·exact (Sim.equal ok h k).mono fun r' u v _ e=>⟨e,fun _=>⟨fun a b ea eb=>absurd ⟨a,b,ea,eb⟩ hp,fun c e=>hy ⟨c,e⟩⟩⟩
theorem Sim.checkKey (b b':Bool) (n:Nat) {k:TypeId} {ik:IntKind} (hk:C.P.underlying k=some (.int ik)) {x y:Value} (h:VR C r x y):Sim C r (fun _ _ _=>True) (Instr.checkKey b (n+1) k x) (Instr.checkKey b' (n+1) k y):=by
 unfold Instr.checkKey;refine Sim.bind (Sim.under k) ?_;rintro r1 d _ h1 ⟨rfl,hd⟩;rw [hk] at hd;cases hd;cases h <;> exact Sim.pure trivial
def FR (C:Ctx) (k:Value) (es:List MapEntry) (r:Ren):Option (Nat × Value)→Option (Nat × Value)→Prop
 | none,none=>True
 | some (i,x),some (j,y)=>i=j∧VR C r x y∧∃ e,es[i]?=some e∧KF C k e.key∧∀ c,e.key ≠ .agg c
 | _,_=>False
theorem sameNow_rel {x x' y y':Value} (d:TypeDesc) (h:VR C r x x') (k:VR C r y y'):Instr.sameNow d x y=Instr.sameNow d x' y':=by
 cases d <;> cases h <;> cases k <;> rfl
theorem sameNow_kf {d:TypeDesc} {x y:Value} {b:Bool} (h:Instr.sameNow d x y=some b):KF C x y∧∀ c,y ≠ .agg c:=by
 refine ⟨fun a b ea eb => ?_,fun c e => ?_⟩
 ·subst ea
  cases d <;> simp [Instr.sameNow] at h
 ·subst e
  cases d <;> cases x <;> simp [Instr.sameNow] at h
theorem findNow_rel (d:TypeDesc) {k k':Value} (hk:VR C r k k') (all:List MapEntry):∀ {es es':List MapEntry} (i:Nat),(∀ j,es[j]?=all[i+j]?)→ELs C r es es' →
  (∃ a b,Instr.findNow d k es i=some a∧Instr.findNow d k' es' i=some b∧FR C k all r a b) ∨ (Instr.findNow d k es i=none∧Instr.findNow d k' es' i=none)
 | [],[],i,_,_ => .inl ⟨none,none,rfl,rfl,trivial⟩
 | e :: es,e' :: es',i,ha,⟨h1,h2⟩=>by
  have e0:all[i]?=some e:=by have:=ha 0; simpa using this.symm
  have hs:=sameNow_rel d hk h1.key;unfold Instr.findNow;rw [← hs];cases hb:Instr.sameNow d k e.key with
  | none=>exact .inr ⟨rfl,rfl⟩
  | some b=>cases b with
   | true=>exact .inl ⟨_,_,rfl,rfl,rfl,h1.val,e,e0,(sameNow_kf (C:=C) hb).1,(sameNow_kf (C:=C) hb).2⟩
   | false=>exact findNow_rel d hk all (i+1) (fun j=>by have:=ha (j+1); simp only [List.getElem?_cons_succ] at this; rw [this]; congr 1; omega) h2
 | [],_ :: _,i,_,h=>h.elim
 | _ :: _,[],i,_,h=>h.elim
theorem Sim.findAsking {kt:TypeId} {ik:IntKind} (hik:C.P.underlying kt=some (.int ik)) (ok:eqOk C.tb 1 kt=true) (all:List MapEntry):∀ {es es':List MapEntry} {r:Ren} {k k':Value} (i:Nat),(∀ j,es[j]?=all[i+j]?)→VR C r k k'→ELs C r es es'→Sim C r (FR C k all) (Instr.findAsking kt k es i) (Instr.findAsking kt k' es' i)
 | [],[],r,k,k',i,_,hk,_=>Sim.pure trivial
 | e :: es,e' :: es',r,k,k',i,ha,hk,⟨h1,h2⟩=>by
  have e0:all[i]?=some e:=by have:=ha 0; simpa using this.symm
  unfold Instr.findAsking;refine Sim.bind (Sim.equalKey hik ok hk h1.key) ?_;rintro r1 b _ hr ⟨rfl,hkf⟩;cases b with
  | true=>exact Sim.pure ⟨rfl,h1.val.mono hr,e,e0,(hkf rfl).1,(hkf rfl).2⟩
  | false=>exact Sim.findAsking hik ok all (i+1) (fun j=>by have:=ha (j+1); simp only [List.getElem?_cons_succ] at this; rw [this]; congr 1; omega) (hk.mono hr) (ELs.mono hr h2)
 | [],_ :: _,r,k,k',i,_,hk,h=>h.elim
 | _ :: _,[],r,k,k',i,_,hk,h=>h.elim
theorem Sim.findKey {kt:TypeId} {ik:IntKind} (hik:C.P.underlying kt=some (.int ik)) (ok:eqOk C.tb 1 kt=true) {es es':List MapEntry} {k k':Value} (hk:VR C r k k') (he:∀ r',Sub r r'→ELs C r' es es'):Sim C r (FR C k es) (Instr.findKey kt k es) (Instr.findKey kt k' es'):=by
 unfold Instr.findKey;refine Sim.bind (Sim.under kt) ?_;rintro r1 d _ hr ⟨rfl,_⟩;rcases findNow_rel d (hk.mono hr) es 0 (fun j=>by simp) (he r1 hr) with ⟨a,b,e1,e2,h⟩ | ⟨e1,e2⟩
 ·rw [e1,e2]; exact Sim.pure h
 ·rw [e1,e2]; exact Sim.findAsking hik ok es 0 (fun j=>by simp) (hk.mono hr) (he r1 hr)
theorem Sim.getMap {a b:Nat} (ab:r a b) {α β:Type} {Q:Ren→α→β→Prop} {s:Sem α} {s':Sem β} {k:Array MapEntry→Nat→Sem α} {l:Array MapEntry→Nat→Sem β}
  (hs:Never C.Px s) (hk:∀ r' es es' c,Sub r r'→EAll C r' es es'→Sim C r' Q (k es c) (l es' c)) :
  Sim C r Q (Go.getObj a >>= fun o=>match o with | .map es c=>k es c | _=>s) (Go.getObj b >>= fun o=>match o with | .map es c=>l es c | _=>s'):=by
 refine Sim.bind (Sim.getObj ab) ?_;rintro r1 o o' h1 ⟨ho,_⟩;cases ho with
 | map m=>exact hk r1 _ _ _ h1 m
 | _=>exact Sim.never hs
theorem Sim.lookup {t:TypeId} (ok:keyInt C.tb t=true) {x x' y y':Value} (h:VR C r x x') (k:VR C r y y') (b:Bool):Sim C r (VR C) (Instr.lookup t x y b) (Instr.lookup t x' y' b):=by
 unfold Instr.lookup;refine Sim.bind (Sim.under t) ?_;rintro r1 d _ h1 ⟨rfl,hd⟩;cases d with
 | map kt et =>
  obtain ⟨⟨ik,hik⟩,hz,heq⟩:=keyInt_out ok hd;replace h:=h.mono h1
  replace k:=k.mono h1
  have rest:∀ (r2:Ren) (es es':Array MapEntry),Sub r1 r2→EAll C r2 es es'→Sim C r2 (VR C)
    (Instr.checkKey es.isEmpty 10000 kt y >>= fun _=>Instr.findKey kt y es.toList >>= fun f=>match f with
     | some (_,v)=>Pure.pure (if b then .tuple #[v,.bool true] else v)
     | none=>zeroValue et >>= fun z=>Pure.pure (if b then .tuple #[z,.bool false] else z))
    (Instr.checkKey es'.isEmpty 10000 kt y' >>= fun _=>Instr.findKey kt y' es'.toList >>= fun f=>match f with
     | some (_,v)=>Pure.pure (if b then .tuple #[v,.bool true] else v)
     | none=>zeroValue et >>= fun z=>Pure.pure (if b then .tuple #[z,.bool false] else z)):=by
   intro r2 es es' h2 he;have ret:∀ (r:Ren) (u v:Value) (c:Bool),VR C r u v→VR C r (if b then .tuple #[u,.bool c] else u) (if b then .tuple #[v,.bool c] else v):=by
    intro r u v c huv;split
    ·have:=((VAll.nil (C:=C) (r:=r)).push huv).push (VR.bool c)
     exact VR.tupleA (by simpa using this)
    ·exact huv
   refine Sim.bind (Sim.checkKey _ _ 9999 hik (k.mono h2)) ?_;intro r3 _ _ h3 _;refine Sim.bind (Sim.findKey hik heq ((k.mono h2).mono h3) fun r' hr=>((he.mono h3).mono hr).toList) ?_;intro r4 f g h4 hfg;match f,g,hfg with
   | none,none,_ =>
    refine Sim.bind (Sim.zero hz) ?_;rintro r5 z _ h5 ⟨rfl,hf⟩;exact Sim.pure (ret _ _ _ _ (vr_flat hf))
   | some (i,u),some (j,v),⟨_,huv,_⟩=>exact Sim.pure (ret _ _ _ _ huv)
  cases h with
  | map0=>exact rest r1 #[] #[] (Sub.refl _) ⟨rfl,fun i e e' he=>by simp at he⟩
  | map ab=>exact Sim.getMap (k:=fun es _=>_) (l:=fun es _=>_) ab (Never.bind_left Never.halt) fun r2 es es' c h2 he=>rest r2 es es' h2 he
  | _=>exact Sim.never (Never.bind_left Never.halt)
 | _=>exact Sim.halt
theorem sameBits_rel (hw:∃ w v,WR C r w v) (n:Nat) {x x' y y':Value} (h:VR C r x x') (k:VR C r y y') (hkf:KF C y x) (hf:∀ c,x ≠ .agg c):Instr.sameBits n x y=Instr.sameBits n x' y':=by
 cases h with
 | @ptr a a' ab =>
  cases k with
  | @ptr b b' cd =>
   have:=addr_iff hw ab cd (fun h=>hkf b a rfl rfl ⟨h.2,h.1⟩);cases n <;> simp only [Instr.sameBits] <;> (rw [Bool.eq_iff_iff] at this ⊢; simp only [beq_iff_eq,Option.some.injEq] at this ⊢; exact this.symm)
  | ptr0=>cases n <;> simp [Instr.sameBits]
  | _=>cases n <;> rfl
 | ptr0 =>
  cases k with
  | ptr cd=>cases n <;> simp [Instr.sameBits]
  | _=>cases n <;> rfl
 | agg e1 g1=>exact absurd rfl (hf _)
 | @ch a b ab nr =>
  cases k with
  | @ch a' b' cd nr' =>
   obtain ⟨w,v,hw⟩:=hw;have e:(a=a') ↔ (b=b'):=by
    constructor
    ·intro e
     subst e;exact hw.fn _ _ _ ab cd
    ·intro e
     subst e;rcases hw.inj _ _ _ ab cd with e | ⟨e,_⟩
     ·exact e
     ·exact absurd e nr
   have e2:(a == a')=(b == b'):=by rw [Bool.eq_iff_iff]; simpa using e
   cases n <;> simp [Instr.sameBits,e2]
  | _=>cases n <;> rfl
 | _=>cases k <;> cases n <;> rfl
theorem Sim.keyStays {kt:TypeId} {x x' y y':Value} (h:VR C r x x') (k:VR C r y y') (e:Instr.sameBits 10000 x y=Instr.sameBits 10000 x' y'):Sim C r (VR C) (Instr.keyThatStays x y) (Instr.keyThatStays x' y'):=by
 unfold Instr.keyThatStays;rw [e];split
 ·exact Sim.pure k
 ·refine Sim.bind (Sim.choose _) ?_
  rintro r1 c _ h1 rfl;split
  ·exact Sim.pure (k.mono h1)
  ·exact Sim.pure (h.mono h1)
theorem Sim.mapUpdate {t:TypeId} (ok:keyInt C.tb t=true) {m m' x x' y y':Value} (hm:VR C r m m') (h:VR C r x x') (k:VR C r y y'):Sim C r (fun _ _ _=>True) (Instr.mapUpdate t m x y) (Instr.mapUpdate t m' x' y'):=by
 unfold Instr.mapUpdate;refine Sim.bind (Sim.under t) ?_;rintro r1 d _ h1 ⟨rfl,hd⟩;cases d with
 | map kt et =>
  obtain ⟨⟨ik,hik⟩,hz,heq⟩:=keyInt_out ok hd;replace hm:=hm.mono h1
  replace h:=h.mono h1
  replace k:=k.mono h1
  cases hm with
  | map0=>exact Sim.never (never_rtp _ _)
  | @map a b ab =>
   refine Sim.getMap ab Never.halt fun r2 es es' c h2 he => ?_
   refine Sim.bind (Sim.checkKey _ _ 9999 hik (h.mono h2)) ?_;intro r3 _ _ h3 _;refine Sim.bind (Sim.findKey hik heq ((h.mono h2).mono h3) fun r' hr=>((he.mono h3).mono hr).toList) ?_;intro r4 f g h4 hfg;have he4:=(he.mono h3).mono h4;have hx4:=((h.mono h2).mono h3).mono h4;have hy4:=((k.mono h2).mono h3).mono h4;have ab4:=h4 _ _ (h3 _ _ (h2 _ _ ab));match f,g,hfg with
   | none,none,_=>exact Sim.setMap ab4 _ (he4.push ⟨hx4,hy4,rfl⟩)
   | some (i,u),some (j,v),⟨e,huv,hkf⟩ =>
    subst e;obtain ⟨z,hz,hkf,hag⟩:=hkf;have hz1:es[i]?=some z:=by simpa using hz
    obtain ⟨z',hz',hzz⟩:=he4.get? hz1;have hold:VR C r4 (((es[i]?).map (·.key)).getD x) (((es'[i]?).map (·.key)).getD x'):=by rw [hz1,hz']; exact hzz.key
    have eo:((es[i]?).map (·.key)).getD x=z.key:=by rw [hz1]; rfl
    refine Sim.given fun hw => ?_
    refine Sim.bind (Sim.keyStays (kt:=kt) hold hx4 (sameBits_rel hw _ hold hx4 (by rw [eo]; exact hkf) (by rw [eo]; exact hag))) ?_;intro r5 p q h5 hpq;exact Sim.setMap (h5 _ _ ab4) _ ((he4.mono h5).modify _ fun a b hab=>⟨hpq,hy4.mono h5,hab.born⟩)
  | _=>exact Sim.halt
 | _=>exact Sim.halt
theorem Sim.delete {ts:Array TypeId} (ok:(match ts[0]? with | some t=>keyInt C.tb t | none=>false)=true) (t:TypeId) {xs ys:Array Value} (h:VAll C r xs ys):Sim C r (VR C) (Builtin.delete_ ts t xs) (Builtin.delete_ ts t ys):=by
 unfold Builtin.delete_;cases h0:ts[0]? with
 | none=>rw [h0] at ok; cases ok
 | some t0 =>
  rw [h0] at ok;cases hx:xs[0]? with
  | none=>exact Sim.halt
  | some m =>
   obtain ⟨m',hy,hm⟩:=h.get? hx;cases hx1:xs[1]? with
   | none=>exact Sim.halt
   | some x =>
    obtain ⟨x',hy1,hxx⟩:=h.get? hx1;simp only [hy,hy1];refine Sim.bind (Sim.under t0) ?_;rintro r1 d _ h1 ⟨rfl,hd⟩;replace hm:=hm.mono h1
    replace hxx:=hxx.mono h1
    cases d with
    | map kt et =>
     obtain ⟨⟨ik,hik⟩,hz,heq⟩:=keyInt_out ok hd;cases hm with
     | map0 =>
      refine Sim.bind (Sim.checkKey _ _ 9999 hik hxx) ?_;intro r2 _ _ h2 _;exact Sim.pure (VR.tupleA VAll.nil)
     | @map a b ab =>
      refine Sim.getMap ab (Never.bind_left Never.halt) fun r2 es es' c h2 he => ?_
      refine Sim.bind (Sim.checkKey _ _ 9999 hik (hxx.mono h2)) ?_;intro r3 _ _ h3 _;refine Sim.bind (Sim.findKey hik heq ((hxx.mono h2).mono h3) fun r' hr=>((he.mono h3).mono hr).toList) ?_;intro r4 f g h4 hfg;have he4:=(he.mono h3).mono h4;have ab4:=h4 _ _ (h3 _ _ (h2 _ _ ab));match f,g,hfg with
      | none,none,_ =>
       refine Sim.bind (Sim.setMap ab4 _ he4) ?_;intro r5 _ _ h5 _;exact Sim.pure (VR.tupleA VAll.nil)
      | some (i,u),some (j,v),⟨e,huv,hkf⟩ =>
       subst e;refine Sim.bind (Sim.setMap ab4 _ (he4.erase i)) ?_;intro r5 _ _ h5 _;exact Sim.pure (VR.tupleA VAll.nil)
     | _=>exact Sim.never (Never.bind_left Never.halt)
    | _=>exact Sim.halt
theorem Sim.clear {ts:Array TypeId} (ok:(match ts[0]? with | some t=>sliceOk C.tb t | none=>false)=true) (t:TypeId) {xs ys:Array Value} (h:VAll C r xs ys):Sim C r (VR C) (Builtin.clear_ ts t xs) (Builtin.clear_ ts t ys):=by
 unfold Builtin.clear_;cases h0:ts[0]? with
 | none=>rw [h0] at ok; cases ok
 | some t0 =>
  rw [h0] at ok;cases hx:xs[0]? with
  | none=>exact Sim.halt
  | some m =>
   obtain ⟨m',hy,hm⟩:=h.get? hx;simp only [hy];refine Sim.bind (Sim.under t0) ?_;rintro r1 d _ h1 ⟨rfl,hd⟩;replace hm:=hm.mono h1
   have ret:Sim C r1 (VR C) (Pure.pure (.tuple #[])) (Pure.pure (.tuple #[])):=Sim.pure (VR.tupleA VAll.nil);cases hm with
   | map0=>cases d <;> exact ret
   | @map a b ab =>
    cases d;all_goals
     refine Sim.getMap ab (Never.bind_left Never.halt) fun r2 es es' c h2 he => ?_
     refine Sim.bind (Sim.setMap (h2 _ _ ab) _ ⟨rfl,fun i e e' he=>by simp at he⟩) ?_;intro r3 _ _ h3 _;exact Sim.pure (VR.tupleA VAll.nil)
   | sl0 n c=>cases d <;> exact ret
   | slE a b=>cases d <;> exact ret
   | @sl a b n c ab =>
    cases n with
    | zero=>cases d <;> exact ret
    | succ n =>
     cases d with
     | slice elem =>
      have hz:zeroOk C.tb elem=true:=by
       have hd':(⟨C.tb,#[]⟩:Program).underlying t0=some (.slice elem):=hd;simpa [sliceOk,hd'] using ok
      refine Sim.bind (Sim.zero hz) ?_;rintro r2 z _ h2 ⟨rfl,hf⟩;have hzc:VAll C r2 z.cells z.cells:=VAll.flat (flat_cells hf);refine Sim.bind (Sim.storeCells 0 (ab.mono h2) (zeroCells_rel hzc _).toList) ?_;intro r3 _ _ h3 _;exact Sim.pure (VR.tupleA VAll.nil)
     | _=>exact Sim.never (Never.bind_left Never.halt)
   | _=>cases d <;> exact Sim.never (Never.bind_left Never.halt)
end
end Rn
namespace Rn
def okX (F D:Nat→Bool):Operand→Bool
 | .tmp t=>D t
 | .const v=>flatV v
 | .global _=>false
 | .func f=>F f
def specAt (f:Nat):Nat:=1000000000+f
def okCallee (F D:Nat→Bool) (n:Nat):Operand→Bool
 | .func f=>F f || (!D (specAt f) && n == 1)
 | x=>okX F D x
def okOp (tb:Tables) (F D:Nat→Bool) (o:Oper):Bool :=
 match o.op with
 | .move x | .assign x | .box _ x | .load _ x | .nilCheck x | .unOp _ _ x | .extract x _ | .field _ x _=>okX F D x
 | .fieldAddr s x f=>okX F D x && fieldOk tb s f
 | .store _ a b | .indexAddr _ a b=>okX F D a && okX F D b
 | .pick a b c=>okX F D a && okX F D b && okX F D c
 | .slice _ x l h m=>okX F D x && l.all (okX F D) && h.all (okX F D) && m.all (okX F D)
 | .alloc t=>zeroOk tb t
 | .build t ps=>zeroOk tb t && ps.toList.all fun p=>okX F D p.2
 | .buildSlice t _ ps=>sliceOk tb t && ps.toList.all fun p=>okX F D p.2
 | .binOp op t a b _=>okX F D a && okX F D b && (!isEq op || (eqOk tb 5 t && guardOk tb t))
 | .convert s t x=>okX F D x && toIntOk tb s && toIntOk tb t
 | .makeSlice t a b=>sliceOk tb t && okX F D a && okX F D b
 | .makeFunc (.func f) a b=>F f && a.toList.all (okX F D) && b.toList.all (okX F D)
 | .makeMap _ none=>true
 | .mapUpdate t a b c=>keyInt tb t && okX F D a && okX F D b && okX F D c
 | .lookup t a b _=>keyInt tb t && okX F D a && okX F D b
 | .makeChan _ x=>okX F D x && !D chanAt
 | .send a b=>okX F D a && okX F D b && !D chanAt
 | .recv t a _=>okX F D a && !D chanAt && (match (⟨tb,#[]⟩:Program).underlying t with | some (.chan _ e)=>zeroOk tb e | _=>false)
 | .call c=>c.args.toList.all (okX F D) && match c.callee with
  | .value f=>okCallee F D c.args.size f
  | .builtin .append=>appendOk tb c.argTypes
  | .builtin .len | .builtin .max=>true
  | .builtin .close => !D chanAt
  | .builtin .delete=>(match c.argTypes[0]? with | some t=>keyInt tb t | none=>false)
  | .builtin .clear=>(match c.argTypes[0]? with | some t=>sliceOk tb t | none=>false)
  | _=>false
 | _=>false
def resD (fn:Func) (D:Nat→Bool):Bool:=fn.results.toList.all fun x=>match x with
 | .tmp t=>D t
 | .cell a _=>D a
theorem resD_all (fn:Func):resD fn (fun _=>true)=true:=by
 unfold resD;rw [List.all_eq_true];intro x _;cases x <;> rfl
structure CtxOk (C : Ctx) : Prop where
 lone : ∀ f, C.F f = true → ∃ fn, C.fx[f]? = some fn ∧ (fn.name == "runtime.NumGoroutine") = false ∧ fn.body.isNone = false
 real : ∀ f, C.F f = true → ∃ fn, C.fs[f]? = some fn ∧ (fn.name == "runtime.NumGoroutine") = false ∧ fn.body.isNone = false
 res : ∀ f fn, C.fx[f]? = some fn → resD fn (C.D f) = true
 lone1 : ∀ k f, C.D k (specAt f) = false → ∃ fn, C.fx[f]? = some fn ∧ (fn.name == "runtime.NumGoroutine") = false ∧ fn.body.isNone = false
 real1 : ∀ k f, C.D k (specAt f) = false → ∃ fn, C.fs[f]? = some fn ∧ (fn.name == "runtime.NumGoroutine") = false ∧ fn.body.isNone = false
def Entered (C:Ctx) (f n:Nat):Prop:=C.F f=true ∨ ((∃ k,C.D k (specAt f)=false)∧n=1)
def NextR (C:Ctx) (r:Ren):Next→Next→Prop
 | .value v,.value w=>VR C r v w
 | .skip,.skip=>True
 | .enter f xs,.enter g ys=>f=g∧Entered C f xs.size∧VAll C r xs ys
 | .comm cs b sh,.comm cs' b' sh'=>C.Ch∧b=true∧b'=true∧sh=sh'∧∃ c c',cs = #[c]∧cs' = #[c']∧VR C r c.chan c'.chan∧VO C r c.send c'.send∧VR C r c.zero c'.zero∧(sh = .send∧c.send.isSome=true ∨ (∃ q,sh = .recv q)∧c.send=none)
 | _,_=>False
section
variable {C : Ctx} {r r' : Ren}
theorem Sim.toV {x y:Sem Value} (h:Sim C r (VR C) x y):Sim C r (NextR C) (x >>= fun v=>Pure.pure (.value v)) (y >>= fun v=>Pure.pure (.value v)):=by
 refine Sim.bind h ?_;intro r1 v w h1 hv;exact Sim.pure hv
theorem Sim.toU {x y:Sem Unit} (h:Sim C r (fun _ _ _=>True) x y):Sim C r (NextR C) (x >>= fun _=>Pure.pure .skip) (y >>= fun _=>Pure.pure .skip):=by
 refine Sim.bind h ?_;intro r1 v w h1 hv;exact Sim.pure trivial
theorem CtxOk.both (ok : CtxOk C) {f n : Nat} (h : Entered C f n) : (∃ fn, C.fx[f]? = some fn ∧ (fn.name == "runtime.NumGoroutine") = false ∧ fn.body.isNone = false) ∧ ∃ fn, C.fs[f]? = some fn ∧ (fn.name == "runtime.NumGoroutine") = false ∧ fn.body.isNone = false := by
 rcases h with h | ⟨⟨k, h⟩, _⟩
 ·exact ⟨ok.lone f h, ok.real f h⟩
 ·exact ⟨ok.lone1 k f h, ok.real1 k f h⟩
theorem Sim.callFunc (ok:CtxOk C) {f:Nat} {xs ys:Array Value} (hf:Entered C f xs.size) (h:VAll C r xs ys):Sim C r (NextR C) (Go.callFunc f xs) (Go.callFunc f ys):=by
 obtain ⟨⟨fn,h1,h2,h3⟩,⟨gn,k1,k2,k3⟩⟩:=ok.both hf;unfold Go.callFunc;refine Sim.bind Sim.program ?_;rintro r1 p q hr ⟨rfl,rfl⟩;have e1:C.Px.funcs[f]?=some fn:=h1;have e2:C.P.funcs[f]?=some gn:=k1;rw [e1,e2];simp only [h2,h3,k2,k3,Bool.false_eq_true,if_false];exact Sim.pure ⟨rfl,hf,h.mono hr⟩
theorem VAll.mapX {F D:Nat→Bool} {e e':Operand→Value} (he:∀ x,okX F D x=true→VR C r (e x) (e' x)) {xs:Array Operand} (h:xs.toList.all (okX F D)=true):VAll C r (xs.map e) (xs.map e') :=
 VAll.ofFn _ _ _ fun i x hx=>he x (List.all_eq_true.1 h x (by
  have:=(Array.getElem?_eq_some_iff.1 hx)
  obtain ⟨hl,rfl⟩:=this
  simp))
theorem VO.mapX {F D:Nat→Bool} {e e':Operand→Value} (he:∀ x,okX F D x=true→VR C r (e x) (e' x)) {x:Option Operand} (h:x.all (okX F D)=true):VO C r (x.map e) (x.map e'):=by
 cases x with
 | none=>trivial
 | some x=>exact he x (by simpa using h)
theorem PL.mapX {F D:Nat→Bool} {e e':Operand→Value} (he:∀ x,okX F D x=true→VR C r (e x) (e' x)):∀ {ps:List (Nat × Operand)},(ps.all fun p=>okX F D p.2)=true→PL C r (ps.map fun p=>(p.1,e p.2)) (ps.map fun p=>(p.1,e' p.2))
 | [],_ => .nil
 | (i,x) :: ps,h=>by
  simp only [List.all_cons,Bool.and_eq_true] at h;exact .cons (he x h.1) (PL.mapX he h.2)
theorem Sim.newN {o o':Obj} (ho:∀ a b,OR C (r.ext a b) (some o) (some o')):Sim C r (fun s a b=>s a b∧¬ C.RO a) (newObj o) (newObj o'):=by
 intro w v es fs hw ht hf;refine ⟨fun u w' es' e => ?_,fun hh w' es' e=>(by cases e),loc_of (by exact fun _=>trivial) w es⟩;cases e;exact ⟨v.heap.size,_,_,_,rfl,Ext.push C (fun a b h=>(hw.lt a b h).2) o o',hw.push (ho _ _),ht,fun f h=>(hf f h).mono (Ren.sub_ext _ _ _),.inr ⟨rfl,rfl⟩,fun h=>by have:=hw.roLt _ h; omega⟩
theorem Sim.makeChan (hc:C.Ch) (t:TypeId) {x y:Value} (h:VR C r x y):Sim C r (VR C) (Instr.makeChan t x) (Instr.makeChan t y):=by
 unfold Instr.makeChan;refine Sim.bind (Sim.asInt h) ?_;rintro r1 n _ h1 rfl;refine Sim.bind (Sim.under t) ?_;rintro r2 d _ h2 ⟨rfl,_⟩;cases d with
 | chan dir elem =>
  dsimp only;refine Sim.bind (Sim.info elem) ?_;rintro r3 i _ h3 ⟨rfl,_⟩;split
  ·exact Sim.never (Never.bind_left (never_rtp _ _))
  ·refine Sim.bind (Sim.newN (o := .chan n.toNat #[] false 0 0 false) (o' := .chan n.toNat #[] false 0 0 false) fun a b => .chan _ _ _ _ _ hc VAll.nil) ?_
   rintro r4 a b h4 ⟨ab,nr⟩;exact Sim.pure (.ch ab nr)
 | _=>exact Sim.halt
theorem Sim.close (ts:Array TypeId) (t:TypeId) {xs ys:Array Value} (h:VAll C r xs ys):Sim C r (VR C) (Builtin.close_ ts t xs) (Builtin.close_ ts t ys):=by
 unfold Builtin.close_;obtain ⟨l⟩:=xs;obtain ⟨l'⟩:=ys;have hs:=h.size;match l,l',hs with
 | [],[],_=>exact Sim.halt
 | [u],[v],_ =>
  have hv:VR C r u v:=h.get 0 u v rfl rfl;cases hv with
  | ch0=>exact Sim.never (never_rtp _ _)
  | ch ab nr =>
   dsimp only;refine Sim.bind (Sim.getObj ab) ?_;rintro r1 o o' h1 ⟨ho,_⟩;cases ho with
   | chan cap cl s q tm hc m =>
    dsimp only;cases cl with
    | true=>exact Sim.never (Never.bind_left (never_rtp _ _))
    | false =>
     refine Sim.bind (Sim.setObjR (h1 _ _ ab) (.chan cap true s q tm hc m)) ?_;intro r2 _ _ h2 _;exact Sim.pure (VR.tupleA VAll.nil)
   | _=>exact Sim.halt
  | _=>exact Sim.halt
 | a :: b :: c,a' :: b' :: c',_=>exact Sim.halt
theorem simOp (ok:CtxOk C) {D:Nat→Bool} (hCh:D chanAt=false→C.Ch) (hD:∀ f,D (specAt f)=false→∃ k,C.D k (specAt f)=false) {o:Oper} (ho:okOp C.tb C.F D o=true) {e e':Operand→Value} (he:∀ x,okX C.F D x=true→VR C r (e x) (e' x)) (hf1:∀ f,e (.func f) = .func (.func f) #[] #[]) (hf2:∀ f,e' (.func f) = .func (.func f) #[] #[]) :
  Sim C r (NextR C) (execOp e o) (execOp e' o):=by
 obtain ⟨dst,op,ty,pos,after,guard⟩:=o;unfold okOp at ho;unfold execOp;cases op with
 | move x=>exact Sim.pure (he x ho)
 | assign x=>exact Sim.pure (he x ho)
 | pick c a b =>
  simp only [Bool.and_eq_true] at ho;refine Sim.bind (Sim.asBool (he c ho.1.1)) ?_;rintro r1 t _ h1 rfl;refine Sim.pure ?_;show VR C r1 (if t=true then e a else e b) (if t=true then e' a else e' b)
  split
  ·exact (he a ho.1.2).mono h1
  ·exact (he b ho.2).mono h1
 | alloc t=>exact Sim.toV (Sim.alloc ho)
 | box t x=>exact Sim.toV (Sim.box t (he x ho))
 | build t ps =>
  simp only [Bool.and_eq_true] at ho;exact Sim.toV (Sim.build ho.1 (by simpa using PL.mapX he ho.2))
 | buildSlice t n ps =>
  simp only [Bool.and_eq_true] at ho;exact Sim.toV (Sim.buildSlice ho.1 n (by simpa using PL.mapX he ho.2))
 | load t a=>exact Sim.toV (Sim.loadAt t (he a ho))
 | store t a x =>
  simp only [Bool.and_eq_true] at ho;exact Sim.toU (Sim.storeAt t (he a ho.1) (he x ho.2))
 | nilCheck x =>
  dsimp only;have h:=he x ho;revert h
  generalize e x=u;generalize e' x=v;intro h;cases h <;> first | exact Sim.never (never_rtp _ _) | (refine Sim.pure (Q:=NextR C) (a:=Next.value _) (b:=Next.value _) ?_; show VR C r _ _; constructor <;> assumption)
 | binOp op t a b u =>
  simp only [Bool.and_eq_true,Bool.or_eq_true,Bool.not_eq_true'] at ho;obtain ⟨⟨ha,hb⟩,hq⟩:=ho;refine Sim.toV ?_;refine Sim.bind (Q:=fun _ _ _=>True) ?_ ?_
  ·rcases hq with hq | hq
   ·exact Sim.eqGuard' op ⟨fun e=>(by subst e; cases hq),fun e=>(by subst e; cases hq)⟩ a b
   ·exact Sim.eqGuard hq.2 op a b (he a ha) (he b hb)
  ·intro r1 _ _ h1 _
   refine Sim.binOp (n:=5) op (fun hi => ?_) ((he a ha).mono h1) ((he b hb).mono h1);rcases hq with hq | hq
   ·rw [hi] at hq; cases hq
   ·exact hq.1
 | unOp op t x=>exact Sim.toV (Sim.unary op (he x ho))
 | convert s t x =>
  simp only [Bool.and_eq_true] at ho;exact Sim.toV (Sim.convert ho.1.2 ho.2 (he x ho.1.1))
 | makeFunc f a b =>
  cases f with
  | func f =>
   simp only [Bool.and_eq_true] at ho;have h1:=VAll.mapX he ho.1.2;have h2:=VAll.mapX he ho.2;exact Sim.toV (Sim.pure (.func ho.1.1 h1.size h1.get h2.size h2.get))
  | _=>cases ho
 | makeMap t m =>
  cases m with
  | none =>
   refine Sim.toV ?_;show Sim C r (VR C) (newObj (.map #[] 0) >>= fun b=>Pure.pure (.map (some b))) (newObj (.map #[] 0) >>= fun b=>Pure.pure (.map (some b)))
   refine Sim.bind (Sim.new fun a b => .map ⟨rfl,fun i e e' he=>by simp at he⟩) ?_;rintro r1 a b h1 ⟨ab,_⟩;exact Sim.pure (.map ab)
  | some x=>cases ho
 | makeSlice t a b =>
  simp only [Bool.and_eq_true] at ho;exact Sim.toV (Sim.makeSlice ho.1.1 (he a ho.1.2) (he b ho.2))
 | slice t x l h m =>
  simp only [Bool.and_eq_true] at ho;exact Sim.toV (Sim.sliceAt t (he x ho.1.1.1) (VO.mapX he ho.1.1.2) (VO.mapX he ho.1.2) (VO.mapX he ho.2))
 | fieldAddr t x f =>
  simp only [Bool.and_eq_true] at ho;exact Sim.toV (Sim.fieldAt ho.2 (he x ho.1))
 | indexAddr t a b =>
  simp only [Bool.and_eq_true] at ho;exact Sim.toV (Sim.indexAt t (he a ho.1) (he b ho.2))
 | extract x i=>exact Sim.toV (Sim.extract (he x ho) i)
 | field s x f=>exact Sim.toV (Sim.fieldV s f (he x ho))
 | mapUpdate t a b c =>
  simp only [Bool.and_eq_true] at ho;exact Sim.toU (Sim.mapUpdate ho.1.1.1 (he a ho.1.1.2) (he b ho.1.2) (he c ho.2))
 | lookup t a b k =>
  simp only [Bool.and_eq_true] at ho;exact Sim.toV (Sim.lookup ho.1.1 (he a ho.1.2) (he b ho.2) k)
 | call c =>
  obtain ⟨callee,args,ats⟩:=c;simp only [Bool.and_eq_true] at ho;have hv:=VAll.mapX he ho.1;have ho2:=ho.2;cases callee with
  | value f =>
   by_cases hsp:okX C.F D f=true
   rotate_left
   ·cases f with
    | func g =>
     simp only [okX] at hsp;simp only [okCallee,hsp,Bool.false_or,Bool.and_eq_true,Bool.not_eq_true',beq_iff_eq] at ho2;show Sim C r (NextR C) (Deferred.ofValue (e (.func g)) (args.map e) >>= fun d=>invoke d.target d.args) (Deferred.ofValue (e' (.func g)) (args.map e') >>= fun d=>invoke d.target d.args)
     rw [hf1,hf2];have hv2:=((VAll.nil (C:=C) (r:=r)).append hv).append (VAll.nil (C:=C) (r:=r));exact Sim.callFunc ok (.inr ⟨hD g ho2.1,by simpa using ho2.2⟩) hv2
    | _=>exact absurd ho2 hsp
   have h:=he f hsp;revert h
   show VR C r (e f) (e' f)→Sim C r (NextR C) (Deferred.ofValue (e f) (args.map e) >>= fun d=>invoke d.target d.args) (Deferred.ofValue (e' f) (args.map e') >>= fun d=>invoke d.target d.args)
   generalize e f=u;generalize e' f=v;intro h;cases h with
   | func hf s1 g1 s2 g2 =>
    exact Sim.callFunc ok (.inl hf) (((VAll.mk s1 g1:VAll C r _ _).append hv).append (VAll.mk s2 g2))
   | nilFunc=>exact Sim.never (show Never C.Px (runtimePanic .nilDeref:Sem Next) from never_rtp _ _)
   | _=>exact Sim.halt
  | builtin b =>
   cases b with
   | append=>exact Sim.toV (Sim.append ho2 ty hv)
   | len=>exact Sim.toV (Sim.len ats ty hv)
   | max=>exact Sim.toV (Sim.max ats ty hv)
   | delete=>exact Sim.toV (Sim.delete ho2 ty hv)
   | clear=>exact Sim.toV (Sim.clear ho2 ty hv)
   | close=>exact Sim.toV (Sim.close ats ty hv)
   | _=>cases ho2
  | invoke x m=>cases ho2
 | makeChan t x =>
  simp only [Bool.and_eq_true,Bool.not_eq_true'] at ho;exact Sim.toV (Sim.makeChan (hCh ho.2) t (he x ho.1))
 | send a b =>
  simp only [Bool.and_eq_true,Bool.not_eq_true'] at ho;exact Sim.pure ⟨hCh ho.2,rfl,rfl,rfl,_,_,rfl,rfl,he a ho.1.1,he b ho.1.2,VR.tupleA VAll.nil,.inl ⟨rfl,rfl⟩⟩
 | recv t a q =>
  simp only [Bool.and_eq_true,Bool.not_eq_true'] at ho;refine Sim.bind (Sim.under t) ?_;rintro r1 d _ h1 ⟨rfl,hd⟩;cases d with
  | chan dir elem =>
   have hz:zeroOk C.tb elem=true:=by
    have hd':(⟨C.tb,#[]⟩:Program).underlying t=some (.chan dir elem):=hd;have:=ho.2;rw [hd'] at this;exact this
   dsimp only;refine Sim.bind (Sim.zero hz) ?_;rintro r2 z _ h2 ⟨rfl,hf⟩;exact Sim.pure ⟨hCh ho.1.2,rfl,rfl,rfl,_,_,rfl,rfl,((he a ho.1.1).mono h1).mono h2,trivial,vr_flat hf,.inr ⟨⟨q,rfl⟩,rfl⟩⟩
  | _=>exact Sim.halt
 | _=>cases ho
end
end Rn
end Go.Proofs.YtjcgklifabcfkaaGreat
