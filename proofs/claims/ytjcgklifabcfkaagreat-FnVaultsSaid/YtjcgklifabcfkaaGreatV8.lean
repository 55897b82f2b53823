/-
  Texts that the law stands on, part 8.
-/
import Derived.Test.YtjcgklifabcfkaaGreatV1
import Derived.Test.YtjcgklifabcfkaaGreatV5
import Derived.Test.YtjcgklifabcfkaaGreatV7
import Derived.OrdersHeld
import Derived.Test.YtjcgklifabcfkaaGreatProg
set_option maxRecDepth 100000
set_option linter.unusedVariables false
set_option linter.unusedSimpArgs false
namespace Go.Proofs.YtjcgklifabcfkaaGreat
namespace Rn
open Go.Conc Go.RowKit Go.Conc.Lib Go.ConcR.Gen Go.ConcN.Gen
open Go.ConcN (WgLive PayAt Has)
open Go.ConcR (KK WgAt stA smA rd wr mk Payload DC0)
def Anch (L:WgLink) (Q:Ph) (F:World→Prop) (own:Bl) (c:Frame) (cs:List Frame) (o:Bl) (g:Goroutine) (w:World):Prop :=
 o=own∧∃ T:Array Value,g=G ((base L.wait).at ⟨T,[]⟩ [.code (L7 L),.inLoop (L7 L),.inBlock 0]) (c :: cs)∧T.size=84∧T[0]?=some (.pointer (some ⟨Q.Wg,0,none⟩))∧F w∧WgLive Q.ty Q.Wg w
theorem Anch.running {L:WgLink} {Q:Ph} {F:World→Prop} {own:Bl} {c:Frame} {cs:List Frame} (o:Bl) (g:Goroutine) (w:World) (h:Anch L Q F own c cs o g w):g.status = .running:=by
 obtain ⟨_,T,rfl,_⟩:=h;rfl
section
variable {L : WgLink} {Q : Ph} {own : Bl} {F : World → Prop} {b₀ : Frame} {a₀ : Act} {ops₀ : Array Oper} {i₀ : Nat} {rest₀ : List Nat} {k₀ : List Item} {cs : List Frame}
set_option maxHeartbeats 8000000 in
theorem waitS (H:WgLib Q.P L) (hF2:Keeps Q own F) (w:World) (hF:F w∧WgLive Q.ty Q.Wg w) :
  SW Q (SKd Q (Anch L Q F own (b₀.at a₀ (.inRegion ops₀ (i₀ :: rest₀) :: k₀)) cs)) own
   (G ((base L.wait).at ⟨#[.pointer (some ⟨Q.Wg,0,none⟩)] ++ Array.replicate 83 undef,[]⟩ [.code (body_wait L)]) (b₀.at a₀ (.inRegion ops₀ (i₀ :: rest₀) :: k₀) :: cs)) w:=by
 lib_facts
 simp only [body_wait,waitFn,Option.getD_some];simp only [Array.replicate,Array.append,List.replicate];refine sw_goes (n:=3) ?_;u_c stepG_seq (fs_rely hF2) hF
 u_cond true (fs_rely hF2) hF
 u_reg (fs_rely hF2) hF
 refine Goes.stop (fun w₁ h₁=>WayG.stop (fun w₂ h₂ => ?_));replace hF:=fs_rely hF2 (fs_rely hF2 hF h₁) h₂
 clear h₁ h₂;refine ⟨rfl,_,stepG_mark0 .disable (by simp) rfl rfl (by k_ne) rfl H.f_disable (x_disable_n L) (x_disable_b L) (x_disable_x L) (x_disable_f L),?_⟩;walk_nrm
 refine sw_goes (n:=3) ?_;u_c stepG_region_end (fs_rely hF2) hF
 u_c stepG_block (fs_rely hF2) hF
 u_c stepG_loop (fs_rely hF2) hF
 exact Goes.stop fun w₁ h₁=>WayG.stop fun w₂ h₂=>⟨rfl,_,rfl,by simp,by simp,fs_rely hF2 (fs_rely hF2 hF h₁) h₂⟩
set_option maxHeartbeats 16000000 in
theorem waitR (H:WgLib Q.P L) (hF2:Keeps Q own F) (ho:¬ own Q.Wg)
  {Z:Goroutine→World→Prop} {mT:Nat} (hT:∀ w,F w→WgLive Q.ty Q.Wg w→Goes Q.P true (RelyS Q own) DC0 Z mT (G (b₀.at (a₀.put ((ops₀[i₀]?).bind (·.dst)) (.tuple #[])) (.inRegion ops₀ rest₀ :: k₀)) cs) w)
  (o:Bl) (g:Goroutine) (w:World) (h:Anch L Q F own (b₀.at a₀ (.inRegion ops₀ (i₀ :: rest₀) :: k₀)) cs o g w) :
  SW Q (SW1 Q (Anch L Q F own (b₀.at a₀ (.inRegion ops₀ (i₀ :: rest₀) :: k₀)) cs) fun o g w=>o=own∧Goes Q.P true (RelyS Q own) DC0 Z (mT+30) g w) o g w:=by
 lib_facts
 obtain ⟨rfl,T,rfl,hT84,t0,hF⟩:=h;obtain ⟨v0,v1,v2,v3,v4,v5,v6,v7,v8,v9,v10,v11,v12,v13,v14,v15,v16,v17,v18,v19,v20,v21,v22,v23,v24,v25,v26,v27,v28,v29,v30,v31,v32,v33,v34,v35,v36,v37,v38,v39,v40,v41,v42,v43,v44,v45,v46,v47,v48,v49,v50,v51,v52,v53,v54,v55,v56,v57,v58,v59,v60,v61,v62,v63,v64,v65,v66,v67,v68,v69,v70,v71,v72,v73,v74,v75,v76,v77,v78,v79,v80,v81,v82,v83,rfl⟩:=array84 T hT84;simp only [List.getElem?_toArray,List.getElem?_cons_zero,Option.some.injEq] at t0;subst t0;refine sw_goes (n:=30) ?_;simp only [L7,body_wait,waitFn,Option.getD_some];u_c stepG_block (fs_rely hF2) hF
 u_c stepG_seq (fs_rely hF2) hF
 u_reg (fs_rely hF2) hF
 u_op (fs_rely hF2) hF
 u_op (fs_rely hF2) hF
 u_op (fs_rely hF2) hF
 u_call H.f_uLoad (nm_uLoad L) uLoadFn (fs_rely hF2) hF
 u_c stepG_seq (fs_rely hF2) hF
 u_reg (fs_rely hF2) hF
 u_op (fs_rely hF2) hF
 u_c stepG_region_end (fs_rely hF2) hF
 u_c stepG_seq (fs_rely hF2) hF
 u_reg (fs_rely hF2) hF
 u_op (fs_rely hF2) hF
 u_op (fs_rely hF2) hF
 u_op (fs_rely hF2) hF
 refine Goes.stop (fun w₁ h₁=>WayG.stop (fun w₂ h₂ => ?_));replace hF:=fs_rely hF2 (fs_rely hF2 hF h₁) h₂
 clear h₁ h₂;refine ⟨rfl,fun v hv hw => ?_⟩;rcases Nat.eq_zero_or_pos v with rfl | hvp
 ·replace hw:WgAt Q.ty Q.Wg w₂ 0 0:=by simpa using hw
  refine ⟨_,stepG_load_atomic (v:=0) rfl rfl (by k_ne) rfl H.f_loadU64 (x_loadU64_n L) (x_loadU64_b L) (x_loadU64_x L) .u64 (x_loadU64_f L) rfl hw.cellSt,fun _ => ?_,fun h=>absurd rfl h⟩;clear hw;walk_nrm
  refine sw_goes (n:=50) ?_;u_op (fs_rely hF2) hF
  u_c stepG_region_end (fs_rely hF2) hF
  u_c stepG_ret' (fs_rely hF2) hF
  u_leave1 H.f_uLoad (fs_rely hF2) hF
  u_op (fs_rely hF2) hF
  u_c stepG_region_end (fs_rely hF2) hF
  u_c stepG_seq (fs_rely hF2) hF
  u_reg (fs_rely hF2) hF
  u_op (fs_rely hF2) hF
  u_op (fs_rely hF2) hF
  u_op (fs_rely hF2) hF
  u_op (fs_rely hF2) hF
  u_c stepG_region_end (fs_rely hF2) hF
  u_c stepG_seq (fs_rely hF2) hF
  u_reg (fs_rely hF2) hF
  u_op (fs_rely hF2) hF
  u_op (fs_rely hF2) hF
  u_op (fs_rely hF2) hF
  u_op (fs_rely hF2) hF
  u_c stepG_region_end (fs_rely hF2) hF
  u_c stepG_seq (fs_rely hF2) hF
  u_c stepG_seq (fs_rely hF2) hF
  u_reg (fs_rely hF2) hF
  u_op (fs_rely hF2) hF
  u_op (fs_rely hF2) hF
  u_c stepG_region_end (fs_rely hF2) hF
  u_cond true (fs_rely hF2) hF
  u_c stepG_seq (fs_rely hF2) hF
  u_cond true (fs_rely hF2) hF
  u_c stepG_seq (fs_rely hF2) hF
  u_reg (fs_rely hF2) hF
  refine Goes.stop (fun w₁ h₁=>WayG.stop (fun w₂ h₂ => ?_));replace hF:=fs_rely hF2 (fs_rely hF2 hF h₁) h₂
  clear h₁ h₂;refine ⟨rfl,_,stepG_mark0 .enable (by simp) rfl rfl (by k_ne) rfl H.f_enable (x_enable_n L) (x_enable_b L) (x_enable_x L) (x_enable_f L),?_⟩;walk_nrm
  refine sw_goes (n:=12) ?_;u_c stepG_region_end (fs_rely hF2) hF
  u_reg (fs_rely hF2) hF
  u_op (fs_rely hF2) hF
  u_in (fs_rely hF2) hF
  refine goes_oper_k rfl rfl (by k_ne) (fun Kx hKx => ?_);have hcv:=run_convert_to_unsafe (P:=Q.P) H.underlying_tWgP H.underlying_tUP H.room_tWg (WgLive.cell0 hF.2).choose_spec;have hce:=fun es=>events_convert_to_unsafe (P:=Q.P) H.underlying_tWgP H.underlying_tUP H.room_tWg (WgLive.cell0 hF.2).choose_spec es
  go_simp
  refine hKx _ _ ⟨?_,?_⟩
  ·u_none
   intro ex hex;have hmx:=mem_listed hex;simp [go_sem,hce] at hmx
  clear hKx Kx hcv hce;refine Goes.stop (fun w₁ h₁=>WayG.stop (fun w₂ h₂ => ?_));replace hF:=fs_rely hF2 (fs_rely hF2 hF h₁) h₂
  clear h₁ h₂;refine ⟨rfl,_,stepG_markAt .acquire (by simp) rfl rfl (by k_ne) rfl H.f_acquire (x_acquire_n L) (x_acquire_b L) (x_acquire_x L) (x_acquire_f L) (by simp [Act.eval,stA]),fun w₁ h₁=>⟨rfl,?_⟩⟩;replace hF:=fs_rely hF2 hF h₁
  clear h₁;walk_nrm
  u_c stepG_region_end (fs_rely hF2) hF
  u_c stepG_seq (fs_rely hF2) hF
  u_c stepG_seq (fs_rely hF2) hF
  u_reg (fs_rely hF2) hF
  u_op (fs_rely hF2) hF
  u_op (fs_rely hF2) hF
  u_op (fs_rely hF2) hF
  u_op (fs_rely hF2) hF
  u_op (fs_rely hF2) hF
  u_op (fs_rely hF2) hF
  u_op (fs_rely hF2) hF
  u_op (fs_rely hF2) hF
  u_skip (fs_rely hF2) hF
  u_skip (fs_rely hF2) hF
  u_op (fs_rely hF2) hF
  u_c stepG_region_end (fs_rely hF2) hF
  u_cond false (fs_rely hF2) hF
  u_c stepG_skip (fs_rely hF2) hF
  u_c stepG_ret' (fs_rely hF2) hF
  u_leave0 H.f_wait (fs_rely hF2) hF
  exact Goes.mono (hT _ hF.1 hF.2) (by omega)
 ·obtain ⟨S,hS⟩:∃ S:Int,(v:Int)*KK=S:=⟨_,rfl⟩
  have a1:S / 4294967296=(v:Int):=by rw [← hS]; simp only [KK]; omega
  have b1:bits .and .u64 S 2147483648=0:=by rw [← hS]; have:=Go.ConcN.st_flag v 0 (by omega) (by omega); simpa [KK] using this
  have b2:bits .and .u64 S 2147483647=0:=by rw [← hS]; have:=Go.ConcN.st_waiters v 0 (by omega) (by omega); simpa [KK] using this
  have c1:IntKind.i32.wrap (v:Int)=(v:Int):=by rw [IntKind.wrap_i32]; omega
  have w1:IntKind.u64.wrap (S+1)=S+1:=by rw [IntKind.wrap_u64,← hS]; simp only [KK]; omega
  have q3:decide ((v:Int)<0)=false:=decide_eq_false (by omega);have q4:decide (0<(v:Int))=true:=decide_eq_true (by omega);have q5:((v:Int) == 0)=false:=by simp; omega
  have q6:decide ((v:Int)=0)=false:=decide_eq_false (by omega);rw [hS] at hw;refine ⟨_,stepG_load_atomic (v:=S) rfl rfl (by k_ne) rfl H.f_loadU64 (x_loadU64_n L) (x_loadU64_b L) (x_loadU64_x L) .u64 (x_loadU64_f L) rfl hw.cellSt,fun h0=>absurd h0 (by omega),fun _ => ?_⟩;clear hw;walk_nrm
  refine sw_goes (n:=60) ?_;u_op (fs_rely hF2) hF
  u_c stepG_region_end (fs_rely hF2) hF
  u_c stepG_ret' (fs_rely hF2) hF
  u_leave1 H.f_uLoad (fs_rely hF2) hF
  u_op (fs_rely hF2) hF
  u_c stepG_region_end (fs_rely hF2) hF
  u_c stepG_seq (fs_rely hF2) hF
  u_reg (fs_rely hF2) hF
  u_op (fs_rely hF2) hF
  u_op (fs_rely hF2) hF
  u_op (fs_rely hF2) hF
  u_op (fs_rely hF2) hF
  u_c stepG_region_end (fs_rely hF2) hF
  u_c stepG_seq (fs_rely hF2) hF
  u_reg (fs_rely hF2) hF
  u_op (fs_rely hF2) hF
  u_op (fs_rely hF2) hF
  u_op (fs_rely hF2) hF
  u_op (fs_rely hF2) hF
  u_c stepG_region_end (fs_rely hF2) hF
  u_c stepG_seq (fs_rely hF2) hF
  u_c stepG_seq (fs_rely hF2) hF
  u_reg (fs_rely hF2) hF
  u_op (fs_rely hF2) hF
  u_op (fs_rely hF2) hF
  u_c stepG_region_end (fs_rely hF2) hF
  u_cnd false (fs_rely hF2) hF
  u_c stepG_skip (fs_rely hF2) hF
  u_c stepG_seq (fs_rely hF2) hF
  u_reg (fs_rely hF2) hF
  u_op (fs_rely hF2) hF
  u_op (fs_rely hF2) hF
  u_op (fs_rely hF2) hF
  u_op (fs_rely hF2) hF
  u_op (fs_rely hF2) hF
  u_op (fs_rely hF2) hF
  u_call H.f_uCas (nm_uCas L) uCasFn (fs_rely hF2) hF
  u_c stepG_seq (fs_rely hF2) hF
  u_reg (fs_rely hF2) hF
  u_op (fs_rely hF2) hF
  u_c stepG_region_end (fs_rely hF2) hF
  u_c stepG_seq (fs_rely hF2) hF
  u_reg (fs_rely hF2) hF
  u_op (fs_rely hF2) hF
  u_op (fs_rely hF2) hF
  u_op (fs_rely hF2) hF
  u_op (fs_rely hF2) hF
  u_op (fs_rely hF2) hF
  refine Goes.stop (fun w₁ h₁=>WayG.stop (fun w₂ h₂ => ?_));replace hF:=fs_rely hF2 (fs_rely hF2 hF h₁) h₂
  clear h₁ h₂;refine ⟨rfl,fun v' hv' hw=>⟨fun e => ?_,fun e => ?_⟩⟩
  ·subst e
   rw [hS] at hw ⊢;refine ⟨_,(stepG_cas_hit (v:=S) (n:=S+1) rfl rfl (by k_ne) rfl H.f_casU64 (x_casU64_n L) (x_casU64_b L) (x_casU64_x L) .u64 (x_casU64_f L) rfl rfl rfl hw.cellSt (hw.thaw 0)).trans (by rfl),?_⟩;replace hF:F (w₂.setCell (stA Q.Wg) (.int .u64 (S+1)))∧WgLive Q.ty Q.Wg (w₂.setCell (stA Q.Wg) (.int .u64 (S+1))):=⟨hF2 _ _ (stays_aside ho (aside_setCell w₂ (stA Q.Wg) _)) hF.1,⟨_,_,hw.setSt _⟩⟩
   clear hw;walk_nrm
   refine sw_goes (n:=70) ?_;u_op (fs_rely hF2) hF
   u_c stepG_region_end (fs_rely hF2) hF
   u_c stepG_ret' (fs_rely hF2) hF
   u_leave1 H.f_uCas (fs_rely hF2) hF
   u_c stepG_region_end (fs_rely hF2) hF
   u_cond true (fs_rely hF2) hF
   u_c stepG_seq (fs_rely hF2) hF
   u_c stepG_seq (fs_rely hF2) hF
   u_reg (fs_rely hF2) hF
   u_op (fs_rely hF2) hF
   u_op (fs_rely hF2) hF
   u_op (fs_rely hF2) hF
   u_op (fs_rely hF2) hF
   u_c stepG_region_end (fs_rely hF2) hF
   u_cond true (fs_rely hF2) hF
   u_reg (fs_rely hF2) hF
   u_op (fs_rely hF2) hF
   u_op (fs_rely hF2) hF
   u_op (fs_rely hF2) hF
   u_in (fs_rely hF2) hF
   refine goes_oper_k rfl rfl (by k_ne) (fun Kx hKx => ?_);have hcv:=run_convert_to_unsafe (P:=Q.P) H.underlying_tPU32 H.underlying_tUP H.room_tU32 (WgLive.cell1 hF.2).choose_spec;have hce:=fun es=>events_convert_to_unsafe (P:=Q.P) H.underlying_tPU32 H.underlying_tUP H.room_tU32 (WgLive.cell1 hF.2).choose_spec es
   go_simp
   refine hKx _ _ ⟨?_,?_⟩
   ·u_none
    intro ex hex;have hmx:=mem_listed hex;simp [go_sem,hce] at hmx
   clear hKx Kx hcv hce;refine Goes.stop (fun w₁ h₁=>WayG.next rfl (fun w₂ h₂ => ?_));replace hF:=fs_rely hF2 (fs_rely hF2 hF h₁) h₂
   clear h₁ h₂;refine ⟨_,_,_,stepG_markAt .write (by simp) rfl rfl (by k_ne) rfl H.f_raceWrite (x_raceWrite_n L) (x_raceWrite_b L) (x_raceWrite_x L) (x_raceWrite_f L) (ad:=⟨Q.Wg,1,none⟩) (by simp [Act.eval] <;> rfl),said_write w₂ ⟨Q.Wg,1,none⟩ rfl,?_⟩
   rw [Plus.same rfl];walk_nrm
   refine sw_goes (n:=50) ?_;u_c stepG_region_end (fs_rely hF2) hF
   u_c stepG_seq (fs_rely hF2) hF
   u_reg (fs_rely hF2) hF
   u_op (fs_rely hF2) hF
   u_c stepG_region_end (fs_rely hF2) hF
   u_c stepG_seq (fs_rely hF2) hF
   u_c stepG_seq (fs_rely hF2) hF
   u_reg (fs_rely hF2) hF
   u_op (fs_rely hF2) hF
   u_op (fs_rely hF2) hF
   u_op (fs_rely hF2) hF
   u_op (fs_rely hF2) hF
   u_skip (fs_rely hF2) hF
   u_op (fs_rely hF2) hF
   u_c stepG_region_end (fs_rely hF2) hF
   u_cond false (fs_rely hF2) hF
   u_c stepG_skip (fs_rely hF2) hF
   u_c stepG_seq (fs_rely hF2) hF
   u_reg (fs_rely hF2) hF
   u_op (fs_rely hF2) hF
   u_op (fs_rely hF2) hF
   u_op (fs_rely hF2) hF
   u_op (fs_rely hF2) hF
   refine Goes.stop (fun w₁ h₁=>WayG.stop (fun w₂ h₂ => ?_));replace hF:=fs_rely hF2 (fs_rely hF2 hF h₁) h₂
   clear h₁ h₂;refine ⟨rfl,rfl,fun ⟨st,hw⟩=>stepG_semacquire_wait rfl rfl rfl H.f_semacquire (x_semacquire_n L) (x_semacquire_b L) (x_semacquire_x L) (x_semacquire_f L) (by simp [Act.eval,smA]) hw.cellSm,fun hf => ?_⟩;refine ⟨_,(stepG_semacquire (n:=1) rfl rfl (by k_ne) rfl H.f_semacquire (x_semacquire_n L) (x_semacquire_b L) (x_semacquire_x L) (x_semacquire_f L) (by simp [Act.eval,smA]) hf.cellSm (by k_ne) (hf.thaw 1)).trans (by rfl),?_⟩;replace hF:F (w₂.setCell (smA Q.Wg) (.int .u32 0))∧WgLive Q.ty Q.Wg (w₂.setCell (smA Q.Wg) (.int .u32 0)):=⟨hF2 _ _ (stays_aside ho (aside_setCell w₂ (smA Q.Wg) _)) hF.1,⟨_,_,hf.setSm 0⟩⟩
   clear hf;walk_nrm
   refine sw_goes (n:=30) ?_;u_c stepG_region_end (fs_rely hF2) hF
   u_c stepG_seq (fs_rely hF2) hF
   u_reg (fs_rely hF2) hF
   u_op (fs_rely hF2) hF
   u_op (fs_rely hF2) hF
   u_op (fs_rely hF2) hF
   u_call H.f_uLoad (nm_uLoad L) uLoadFn (fs_rely hF2) hF
   u_c stepG_seq (fs_rely hF2) hF
   u_reg (fs_rely hF2) hF
   u_op (fs_rely hF2) hF
   u_c stepG_region_end (fs_rely hF2) hF
   u_c stepG_seq (fs_rely hF2) hF
   u_reg (fs_rely hF2) hF
   u_op (fs_rely hF2) hF
   u_op (fs_rely hF2) hF
   u_op (fs_rely hF2) hF
   refine Goes.stop (fun w₁ h₁=>WayG.stop (fun w₂ h₂ => ?_));replace hF:=fs_rely hF2 (fs_rely hF2 hF h₁) h₂
   clear h₁ h₂;refine ⟨rfl,fun hw=>⟨_,stepG_load_atomic (v:=0) rfl rfl (by k_ne) rfl H.f_loadU64 (x_loadU64_n L) (x_loadU64_b L) (x_loadU64_x L) .u64 (x_loadU64_f L) rfl hw.cellSt,?_⟩⟩;clear hw;walk_nrm
   refine sw_goes (n:=30) ?_;u_op (fs_rely hF2) hF
   u_c stepG_region_end (fs_rely hF2) hF
   u_c stepG_ret' (fs_rely hF2) hF
   u_leave1 H.f_uLoad (fs_rely hF2) hF
   u_op (fs_rely hF2) hF
   u_op (fs_rely hF2) hF
   u_c stepG_region_end (fs_rely hF2) hF
   u_c stepG_seq (fs_rely hF2) hF
   u_cond true (fs_rely hF2) hF
   u_c stepG_seq (fs_rely hF2) hF
   u_reg (fs_rely hF2) hF
   refine Goes.stop (fun w₁ h₁=>WayG.stop (fun w₂ h₂ => ?_));replace hF:=fs_rely hF2 (fs_rely hF2 hF h₁) h₂
   clear h₁ h₂;refine ⟨rfl,_,stepG_mark0 .enable (by simp) rfl rfl (by k_ne) rfl H.f_enable (x_enable_n L) (x_enable_b L) (x_enable_x L) (x_enable_f L),?_⟩;walk_nrm
   refine sw_goes (n:=12) ?_;u_c stepG_region_end (fs_rely hF2) hF
   u_reg (fs_rely hF2) hF
   u_op (fs_rely hF2) hF
   u_in (fs_rely hF2) hF
   refine goes_oper_k rfl rfl (by k_ne) (fun Kx hKx => ?_);have hcv:=run_convert_to_unsafe (P:=Q.P) H.underlying_tWgP H.underlying_tUP H.room_tWg (WgLive.cell0 hF.2).choose_spec;have hce:=fun es=>events_convert_to_unsafe (P:=Q.P) H.underlying_tWgP H.underlying_tUP H.room_tWg (WgLive.cell0 hF.2).choose_spec es
   go_simp
   refine hKx _ _ ⟨?_,?_⟩
   ·u_none
    intro ex hex;have hmx:=mem_listed hex;simp [go_sem,hce] at hmx
   clear hKx Kx hcv hce;refine Goes.stop (fun w₁ h₁=>WayG.stop (fun w₂ h₂ => ?_));replace hF:=fs_rely hF2 (fs_rely hF2 hF h₁) h₂
   clear h₁ h₂;refine ⟨rfl,_,stepG_markAt .acquire (by simp) rfl rfl (by k_ne) rfl H.f_acquire (x_acquire_n L) (x_acquire_b L) (x_acquire_x L) (x_acquire_f L) (by simp [Act.eval,stA]),fun w₁ h₁=>⟨rfl,?_⟩⟩;replace hF:=fs_rely hF2 hF h₁
   clear h₁;walk_nrm
   u_c stepG_region_end (fs_rely hF2) hF
   u_c stepG_seq (fs_rely hF2) hF
   u_c stepG_seq (fs_rely hF2) hF
   u_reg (fs_rely hF2) hF
   u_op (fs_rely hF2) hF
   u_c stepG_region_end (fs_rely hF2) hF
   u_cond false (fs_rely hF2) hF
   u_c stepG_skip (fs_rely hF2) hF
   u_c stepG_ret' (fs_rely hF2) hF
   u_leave0 H.f_wait (fs_rely hF2) hF
   exact Goes.mono (hT _ hF.1 hF.2) (by omega)
  ·refine ⟨_,stepG_cas_miss (v:=(v':Int)*KK) (old:=S) (n:=S+1) rfl rfl (by k_ne) rfl H.f_casU64 (x_casU64_n L) (x_casU64_b L) (x_casU64_x L) .u64 (x_casU64_f L) rfl rfl rfl hw.cellSt (hw.thaw 0) (by rw [← hS]; simp only [KK]; omega),?_⟩
   clear hw;walk_nrm
   refine sw_goes (n:=20) ?_;u_op (fs_rely hF2) hF
   u_c stepG_region_end (fs_rely hF2) hF
   u_c stepG_ret' (fs_rely hF2) hF
   u_leave1 H.f_uCas (fs_rely hF2) hF
   u_c stepG_region_end (fs_rely hF2) hF
   u_cond false (fs_rely hF2) hF
   u_c stepG_skip (fs_rely hF2) hF
   u_c stepG_inBlock (fs_rely hF2) hF
   u_c stepG_inLoop (fs_rely hF2) hF
   exact Goes.stop fun w₁ h₁=>WayG.stop fun w₂ h₂=>⟨rfl,_,rfl,by simp,by simp,fs_rely hF2 (fs_rely hF2 hF h₁) h₂⟩
end
end Rn
namespace Rn
open Go.Conc Go.RowKit Go.Conc.Lib Go.ConcR.Gen Go.ConcN.Gen
open Go.ConcN (WgLive PayAt Has AtR0 RW DWs)
open Go.ConcR (KK WgAt stA smA rd wr mk Payload DC0)
inductive Sil (P:Program):Goroutine→Goroutine→World→Prop
 | refl (g w):Sil P g g w
 | step {g g1 g' w}:stepG P false g w = .go g1 w #[]→Sil P g1 g' w→Sil P g g' w
theorem sil_of_goes {P:Program} {R:World→World→Prop} (refl:∀ w,R w w) {g1:Goroutine}:∀ {n:Nat} {g:Goroutine} {w:World},Goes P false R DC0 (fun g _=>g=g1) n g w→Sil P g g1 w:=by
 intro n;induction n with
 | zero=>intro g w h; rw [h w (refl w)]; exact .refl _ _
 | succ n ih =>
  intro g w h;rcases h with h | ⟨_,h⟩
  ·rw [h w (refl w)]; exact .refl _ _
  ·obtain ⟨g',w',es,e,⟨e1,e2⟩,k⟩:=goes_elim (h w (refl w))
   subst e1; subst e2;exact .step e (ih k)
theorem follow {P:Program} {R:World→World→Prop} {D:World→World→Array Event→Prop} {St:Goroutine→World→Prop} (refl:∀ w,R w w) (hSt:∀ g w,St g w→∃ g' e,stepG P false g w = .go g' w #[e]) {g g1:Goroutine} {w:World} (h:Sil P g g1 w) :
  ∀ {n:Nat},Goes P false R D St n g w→∃ m,Goes P false R D St m g1 w:=by
 induction h with
 | refl g w=>exact fun k=>⟨_,k⟩
 | @step g g1 g' w hs _ ih =>
  intro n k;rcases Goes.cases k with hst | ⟨m,rfl,hstep⟩
  ·obtain ⟨_,_,e⟩:=hSt _ _ (hst w (refl w))
   rw [hs] at e; cases e
  ·obtain ⟨g2,w2,es,e,_,k2⟩:=hstep w (refl w)
   rw [hs] at e; cases e;exact ih k2
section
variable {L : WgLink} {P : Program} {Wg C n i : Nat} {val : Value}
theorem r0_at {Own Rd:Nat→Go.Loc→Prop} {ty:TypeId} {g0 g1 g2 g3 g4:Goroutine} {w:World} {m:Nat} (hD:Goes P false (RW ty Wg C n 0 i) (DWs Wg Own Rd C n (i+1)) (AtR0 P ty Wg C n 0 (i+1) val) m g0 w)
  (s1:Sil P g0 g1 w) (e1:stepG P false g1 w = .go g2 w #[mk (.releaseMerge (stA Wg))]) (s2:Sil P g2 g3 w) (e2:stepG P false g3 w = .go g4 w #[mk .disable]):AtR0 P ty Wg C n 0 (i+1) val g1 w:=by
 have rf:∀ w,RW ty Wg C n 0 i w w:=fun w=>Go.ConcN.RW.refl w
 have hSt:∀ g w,AtR0 P ty Wg C n 0 (i+1) val g w→∃ g' e,stepG P false g w = .go g' w #[e]:=fun g w h=>by
  obtain ⟨_,_,g',e,_⟩:=h;exact ⟨g',_,e⟩
 obtain ⟨m1,k1⟩:=follow rf hSt s1 hD;rcases Goes.cases k1 with hst | ⟨m2,rfl,hstep⟩
 ·exact hst w (rf w)
 ·obtain ⟨g',w',es,e,_,k2⟩:=hstep w (rf w)
  rw [e1] at e; cases e;obtain ⟨m3,k3⟩:=follow rf hSt s2 k2;rcases Goes.cases k3 with hst | ⟨m4,rfl,hstep⟩
  ·obtain ⟨_,_,g',e,_⟩:=hst w (rf w)
   rw [e2] at e;simp [mk] at e
  ·obtain ⟨g',w',es,e,hd,_⟩:=hstep w (rf w)
   rw [e2] at e; cases e;exact absurd rfl (hd.2 (mk .disable) (by simp)).2.1
set_option maxHeartbeats 8000000 in
theorem doneStates (H:WgLib P L) {c:Frame} {cs:List Frame} :
  ∃ g1 g2 g3 g4,(∀ w,WgLive L.tWg Wg w∧Has C i val w→Goes P false (RW L.tWg Wg C n 0 i) DC0 (fun g _=>g=g1) 30 (G ((baseD L.done).at ⟨#[.pointer (some ⟨Wg,0,none⟩),undef,undef,undef],[]⟩ [.code (body_done L)]) (c :: cs)) w) ∧
   (∀ w,WgLive L.tWg Wg w∧Has C i val w→stepG P false g1 w = .go g2 w #[mk (.releaseMerge (stA Wg))]) ∧
   (∀ w,WgLive L.tWg Wg w∧Has C i val w→Goes P false (RW L.tWg Wg C n 0 i) DC0 (fun g _=>g=g3) 10 g2 w) ∧
   (∀ w,WgLive L.tWg Wg w∧Has C i val w→stepG P false g3 w = .go g4 w #[mk .disable]):=by
 lib_facts
 apply Exists.intro
 apply Exists.intro
 apply Exists.intro
 apply Exists.intro
 refine ⟨fun w hK => ?a,fun w hK => ?b,fun w hK => ?c,fun w hK => ?d⟩
 case a =>
  simp only [body_done,doneFn,Option.getD_some];u_reg kn_rely hK
  u_op kn_rely hK
  u_call H.f_add (nm_add L) addFn kn_rely hK
  u_c stepG_seq kn_rely hK
  u_cond true kn_rely hK
  u_c stepG_seq kn_rely hK
  u_c stepG_seq kn_rely hK
  u_reg kn_rely hK
  u_op kn_rely hK
  u_op kn_rely hK
  u_c stepG_region_end kn_rely hK
  u_cond true kn_rely hK
  u_reg kn_rely hK
  u_op kn_rely hK
  u_conv H.underlying_tWgP H.room_tWg (WgLive.cell0 hK.1).choose_spec kn_rely hK
  exact Goes.stop fun _ _=>rfl
 case b =>
  exact stepG_markAt .releaseMerge (by simp) rfl rfl (by k_ne) rfl H.f_relMerge (x_relMerge_n L) (x_relMerge_b L) (x_relMerge_x L) (x_relMerge_f L) (by simp [Act.eval,stA])
 case c =>
  walk_nrm
  u_c stepG_region_end kn_rely hK
  u_c stepG_seq kn_rely hK
  u_reg kn_rely hK
  exact Goes.stop fun _ _=>rfl
 case d =>
  exact stepG_mark0 .disable (by simp) rfl rfl (by k_ne) rfl H.f_disable (x_disable_n L) (x_disable_b L) (x_disable_x L) (x_disable_f L)
end
theorem goes_keep {P:Program} {R R':World→World→Prop} {F:World→Prop} {St:Goroutine→World→Prop} (hR:∀ w w1,R' w w1→R w w1) (hF:∀ w w1,F w→R' w w1→F w1) :
  ∀ {n:Nat} {g:Goroutine} {w:World},Goes P false R DC0 St n g w→F w→Goes P false R' DC0 (fun g w=>St g w∧F w) n g w:=by
 intro n;induction n with
 | zero=>exact fun h hf w1 h1=>⟨h w1 (hR _ _ h1),hF _ _ hf h1⟩
 | succ n ih =>
  intro g w h hf;rcases h with h | ⟨hg,h⟩
  ·exact .inl fun w1 h1=>⟨h w1 (hR _ _ h1),hF _ _ hf h1⟩
  ·refine .inr ⟨hg,fun w1 h1 => ?_⟩
   obtain ⟨g',w',es,e,⟨e1,e2⟩,k⟩:=goes_elim (h w1 (hR _ _ h1));subst e1; subst e2;rw [e,goes_go];exact ⟨⟨rfl,rfl⟩,ih k (hF _ _ hf h1)⟩
theorem WayG.bind' {P:Program} {main:Bool} {R R':Bl→World→World→Prop} {D D':Bl→World→World→Array Event→Prop} {Stop Stop':Bl→Goroutine→World→Prop} (hR:∀ own w w1,R' own w w1→R own w w1) (hD:∀ own w w' es,D own w w' es→D' own w w' es)
  (k:∀ own g w,(∀ w1,R own w w1→Stop own g w1)→WayG P main R' D' Stop' own g w) {own:Bl} {g:Goroutine} {w:World} (h:WayG P main R D Stop own g w):WayG P main R' D' Stop' own g w:=by
 induction h with
 | @stop own g w h=>exact k _ _ _ h
 | step ng nw ne hg h1 _ ih=>exact .step ng nw ne hg (fun w1 hr=>⟨(h1 w1 (hR _ _ _ hr)).1,hD _ _ _ _ (h1 w1 (hR _ _ _ hr)).2⟩) fun w1 hr=>ih w1 (hR _ _ _ hr)
section
variable {Q : Ph} {L : WgLink} {ro own : Bl} {i : Nat} {Stop : Bl → Goroutine → World → Prop}
theorem doneWay (H:WgLib Q.P L) (hty:Q.ty=L.tWg) (fo:FinOk Q) {c:Frame} {cs:List Frame} {qt:Nat} {val:Value} (hcm:c.mode = .returning) (hT:QuitsD Q.P qt 0 (G c cs)) (w:World) (hK:WgLive Q.ty Q.Wg w∧Has Q.C i val w) (hfin:Q.fin i own val w) :
  WayG Q.P false (RelyW Q ro i) (DidW Q ro i) (AtRel Q i) own (G ((baseD L.done).at ⟨#[.pointer (some ⟨Q.Wg,0,none⟩),undef,undef,undef],[]⟩ [.code (body_done L)]) (c :: cs)) w:=by
 rw [hty] at hK;obtain ⟨g1,g2,g3,g4,h1,h2,h3,h4⟩:=doneStates (i:=i) (val:=val) (C:=Q.C) (n:=Q.n) (Wg:=Q.Wg) H (c:=c) (cs:=cs);have rf:∀ w,RW L.tWg Q.Wg Q.C Q.n 0 i w w:=fun w=>Go.ConcN.RW.refl w
 have hg:=goes_keep (R':=RelyW Q ro i own) (F:=fun w=>(WgLive L.tWg Q.Wg w∧Has Q.C i val w)∧Q.fin i own val w) (fun w w1 x=>by have:=x.rw; rw [hty] at this; exact this)
  (fun w w1 x y=>⟨kn_rely (n:=Q.n) (Low:=0) x.1 (by have:=y.rw; rw [hty] at this; exact this),fo.stays _ _ _ _ _ _ x.2 (y.stays.less fun b hb => .inl hb) fun _ hb=>hb⟩) (h1 w hK) ⟨hK,hfin⟩
 refine (WayG.of_goes (R:=RelyW Q ro i) (D:=DidW Q ro i) (fun _ _ x=>x) (fun w w' es (x:DC0 w w' es) => ?_) hg).bind (RelyW.refl Q ro i) (fun _ _ _ x=>x) (fun _ _ _ _ x=>x) fun o g w x => ?_
 ·obtain ⟨rfl,rfl⟩:=x
  exact ⟨⟨rfl,rfl,rfl,Nat.le_refl _,fun _ _ _ _=>rfl,fun _ x=>x,fun _ _ _ _=>rfl,by simp⟩,rfl⟩
 ·obtain ⟨rfl,rfl,hF,hf⟩:=x
  refine .stop fun w1 hr=>⟨val,?_,fo.stays _ _ _ _ _ _ hf (hr.stays.less fun b hb => .inl hb) fun _ hb=>hb⟩
  have hF1:WgLive L.tWg Q.Wg w1∧Has Q.C i val w1:=kn_rely (n:=Q.n) (Low:=0) hF (by have:=hr.rw; rw [hty] at this; exact this);rw [hty];exact r0_at (Own:=fun _ _=>False) (Rd:=fun _ _=>False) (doneN (k:=i+1) H hcm hT w1 hF1) (sil_of_goes rf (h1 w1 hF1)) (h2 w1 hF1) (sil_of_goes rf (h3 w1 hF1)) (h4 w1 hF1)
def DRd (own ro:Bl) (w w':World) (es:Array Event):Prop:=w'=w∧∀ e ∈ es,EvOwn own ro e
theorem DRd.didW {w w':World} {es:Array Event} (h:DRd own ro w w' es):DidW Q ro i own w w' es∧w'.heap.size=w.heap.size:=by
 obtain ⟨rfl,h⟩:=h;exact ⟨⟨rfl,rfl,rfl,Nat.le_refl _,fun _ _ _ _=>rfl,fun _ x=>x,fun _ _ _ _=>rfl,fun e he => .inl (by rw [Plus.same rfl]; exact h e he)⟩,rfl⟩
theorem way_rd {P:Program} {n:Nat} {g:Goroutine} {w:World} (h:Goes P false (RelyW Q ro i own) (DRd own ro) (fun g w=>WayG P false (RelyW Q ro i) (DidW Q ro i) Stop own g w) n g w):WayG P false (RelyW Q ro i) (DidW Q ro i) Stop own g w :=
 (WayG.of_goes (R:=RelyW Q ro i) (D:=DidW Q ro i) (fun _ _ x=>x) (fun w w' es (x:DRd own ro w w' es)=>x.didW) h).bind (RelyW.refl Q ro i) (fun _ _ _ x=>x) (fun _ _ _ _ x=>x) fun o g w x=>by
  obtain ⟨rfl,x⟩:=x;exact x
theorem way_sil {P:Program} {n:Nat} {g:Goroutine} {w:World} (h:Goes P false (RelyW Q ro i own) DC0 (fun g w=>WayG P false (RelyW Q ro i) (DidW Q ro i) Stop own g w) n g w):WayG P false (RelyW Q ro i) (DidW Q ro i) Stop own g w :=
 (WayG.of_goes (R:=RelyW Q ro i) (D:=DidW Q ro i) (fun _ _ x=>x) (fun w w' es (x:DC0 w w' es)=>by
  obtain ⟨rfl,rfl⟩:=x;exact DRd.didW ⟨rfl,by simp⟩) h).bind (RelyW.refl Q ro i) (fun _ _ _ x=>x) (fun _ _ _ _ x=>x) fun o g w x=>by
  obtain ⟨rfl,x⟩:=x;exact x
end
def rdy (ops:Array Oper) (l:Array Bool):List Nat :=
 (List.range ops.size).filter fun i => !l.getD i true && ((ops[i]?).map (·.after.all fun e => !Region.binds .any e || l.getD e.on false)).getD false
theorem way_region {P:Program} {main:Bool} {R:Bl→World→World→Prop} {D:Bl→World→World→Array Event→Prop} {Stop:Bl→Goroutine→World→Prop} {ops:Array Oper} {b:Frame} {k:List Item} {cs:List Frame} (J:Array Bool→Bl→Act→World→Prop)
  (step:∀ l own a w i rest,J l own a w→i ∈ rdy ops l→(∀ own' a' w',J (l.setIfInBounds i true) own' a' w'→WayG P main R D Stop own' (G (b.at a' (.inRegion ops rest :: k)) cs) w')→WayG P main R D Stop own (G (b.at a (.inRegion ops (i :: rest) :: k)) cs) w)
  (fin:∀ l own a w,J l own a w→rdy ops l = []→WayG P main R D Stop own (G (b.at a (.inRegion ops [] :: k)) cs) w) :
  ∀ (fuel t:Nat) (l:Array Bool) (own:Bl) (a:Act) (w:World),J l own a w→l.toList.count false≤fuel→WayG P main R D Stop own (G (b.at a (.inRegion ops (Region.linearise.go .any ops fuel t l []) :: k)) cs) w:=by
 have acc:∀ (fuel t:Nat) (l:Array Bool) (ac:List Nat),Region.linearise.go .any ops fuel t l ac=ac.reverse ++ Region.linearise.go .any ops fuel t l []:=by
  intro fuel;induction fuel with
  | zero=>intro t l ac; simp [Region.linearise.go]
  | succ fuel ih =>
   intro t l ac;simp only [Region.linearise.go];split
   ·rename_i i hi
    rw [ih _ _ (i :: ac),ih _ _ [i]];simp
   ·simp
 have hnone:∀ l,l.toList.count false=0→rdy ops l = []:=by
  intro l h;apply List.filter_eq_nil_iff.2
  intro i _;have:l.getD i true=true:=by
   rcases Nat.lt_or_ge i l.size with hl | hl
   ·have hm:l[i] ∈ l.toList:=by simp
    cases hx:l[i] with
    | true=>simp [Array.getD,hl,hx]
    | false=>rw [hx] at hm; exact absurd (List.count_pos_iff.2 hm) (by omega)
   ·simp [Array.getD,Nat.not_lt.2 hl]
  simp [this]
 intro fuel;induction fuel with
 | zero =>
  intro t l own a w hJ hc;simp only [Region.linearise.go,List.reverse_nil];exact fin l own a w hJ (hnone l (by omega))
 | succ fuel ih =>
  intro t l own a w hJ hc;simp only [Region.linearise.go];show WayG P main R D Stop own (G (b.at a (.inRegion ops (match (rdy ops l)[t % (rdy ops l).length]? with | some i=>Region.linearise.go .any ops fuel (t / (rdy ops l).length) (l.setIfInBounds i true) [i] | none => [].reverse) :: k)) cs) w
  cases hi:(rdy ops l)[t % (rdy ops l).length]? with
  | none =>
   simp only [List.reverse_nil];refine fin l own a w hJ ?_;cases hr:rdy ops l with
   | nil=>rfl
   | cons x xs =>
    rw [hr] at hi;have:=List.getElem?_eq_none_iff.1 hi;have:=Nat.mod_lt t (show 0<(x :: xs).length by simp);omega
  | some i =>
   have hm:i ∈ rdy ops l:=List.mem_of_getElem? hi;simp only;rw [acc];simp only [List.reverse_cons,List.reverse_nil,List.nil_append,List.singleton_append];refine step l own a w i _ hJ hm fun own' a' w' hJ'=>ih _ _ own' a' w' hJ' ?_
   have hf:l.getD i true=false:=by
    have:=(List.mem_filter.1 hm).2;simp only [Bool.and_eq_true,Bool.not_eq_true'] at this;exact this.1
   have hl:i<l.size:=by
    rcases Nat.lt_or_ge i l.size with h | h
    ·exact h
    ·simp [Array.getD,Nat.not_lt.2 h] at hf
   have hx:l.toList[i]?=some false:=by simpa [Array.getD,hl] using hf
   have hcs:(l.setIfInBounds i true).toList.count false+1=l.toList.count false:=by
    rw [Array.toList_setIfInBounds];obtain ⟨hl',hx'⟩:=List.getElem?_eq_some_iff.1 hx;rw [List.count_set hl',hx'];have:0<l.toList.count false:=List.count_pos_iff.2 (List.mem_of_getElem? hx);simp only [beq_self_eq_true,if_true,show (true == false)=false from rfl,Bool.false_eq_true,if_false];omega
   omega
theorem schedule_any {ops:Array Oper} (h:Region.departs ops=false) (m:Bool) (t:Nat):Region.schedule m ops t=Region.linearise.go .any ops ops.size t (Array.replicate ops.size false) []:=by
 unfold Region.schedule;rw [h];simp [Region.linearise]
end Rn
namespace Rn
open Go.Conc
def wctx (P:Program) (F:Nat→Bool) (noT:TypeId) (off:Nat):Ctx where
 tb:=P.toTables
 fx:=P.funcs
 fs:=P.funcs
 F:=F
 RO:=fun a=>a=P.globals.size
 sh:=fun a=>if a=P.globals.size then off else 0
 noT:=noT
def winWorld (v:World) (G:Nat) (cells:Array Value) (noT:TypeId):World := { v with heap:=(Array.replicate G (.map #[] 0)).push (.cells cells noT (0,cells.size)) }
theorem win_at (v:World) (G:Nat) (cells:Array Value) (noT:TypeId):(winWorld v G cells noT).heap[G]?=some (.cells cells noT (0,cells.size)):=by
 show ((Array.replicate G (Obj.map #[] 0)).push _)[G]?=_
 rw [Array.getElem?_push,if_pos (by simp)]
def winR (G blk:Nat):Ren:=fun a b=>a=G∧b=blk
theorem winWR {P:Program} {F:Nat→Bool} {noT:TypeId} {off blk:Nat} {v:World} {cells c':Array Value} {T:TypeId} {z:Nat × Nat} (hno:P.toTables.info? noT=none) (hG:P.globals.size≤v.heap.size) (hb:v.heap[blk]?=some (.cells c' T z))
  (hc:∀ (i:Nat) u,cells[i]?=some u→c'[i+off]?=some u∧∃ x,u = .int .i64 x):WR (wctx P F noT off) (winR P.globals.size blk) (winWorld v P.globals.size cells noT) v where
 lt:=by
  rintro a b ⟨rfl,rfl⟩;exact ⟨by simp [winWorld],(Array.getElem?_eq_some_iff.1 hb).1⟩
 fn:=by rintro a b b' ⟨_,rfl⟩ ⟨_,rfl⟩; rfl
 inj:=by rintro a a' b ⟨rfl,_⟩ ⟨rfl,_⟩; exact .inl rfl
 obj:=by rintro a b ⟨rfl,_⟩ h; exact absurd rfl h
 win:=by
  rintro a b ⟨rfl,rfl⟩ _;refine ⟨cells,cells.size,c',T,z,?_,Nat.le_refl _,hb,fun i u hu => ?_⟩
  ·exact win_at _ _ _ _
  ·obtain ⟨h1,x,rfl⟩:=hc i u hu
   exact ⟨_,by simpa [wctx] using h1,.int _ _⟩
 winG:=by rintro a b ⟨rfl,_⟩ _; exact Nat.le_refl _
 glob:=by rintro a b ⟨rfl,_⟩ h; exact absurd rfl h
 big:=⟨by show P.globals.size≤_; simp [winWorld],hG⟩;shz:=by intro a h; show (if a=P.globals.size then off else 0)=0; exact if_neg (fun e=>h e)
 roLt:=by intro a h; subst h; simp [winWorld]
 noInfo:=hno
theorem win_cell {v:World} {G:Nat} {cells:Array Value} {noT:TypeId} {i:Nat} (t:Tp) (d:Nat):((winWorld v G cells noT).tp t d).cell? ⟨G,i,none⟩=cells[i]?:=by
 show (match (winWorld v G cells noT).heap[G]? with | some (.cells c _ _)=>c[i]? | _=>none)=_
 rw [win_at]
theorem win_size {v:World} {G:Nat} {cells:Array Value} {noT:TypeId} (t:Tp) (d:Nat):((winWorld v G cells noT).tp t d).heap.size=G+1:=by simp [World.tp,winWorld]
theorem enter_FrR {C:Ctx} {r:Ren} {f:FuncId} {xs ys:Array Value} (hf:Fine C f) (h:VAll C r xs ys):FrR C r (Frame.enter C.Px f xs .normal) (Frame.enter C.P f ys .normal):=by
 obtain ⟨fc,c,h1,h2,h3⟩:=hf.body;have h1':C.P.funcs[f]?=some fc:=by rw [← h1]; exact hf.same
 rw [enter_at (P:=C.Px) xs h1 h2,enter_at (P:=C.P) ys h1' h2];refine FrR.mk false hf.sameF (VAll.on (h.append ?_)) (.cons (by simp only [okI]; exact h3) .nil);rw [h.size];exact VAll.replicate _ vr_undef
end Rn
namespace Rn
open Go.Conc
def wkL:List Nat := [89,163,139,113,43,104,108,165,148,124,138,171,161,162,164]
def wkF:Nat→Bool:=fun k=>wkL.contains k
theorem wk_all : wkL.all (fun f => match Tryz.prog.funcs[f]? with | some fn => (fn.name != "runtime.NumGoroutine") && (match fn.body with | some c => okC Tryz.prog.toTables wkF (fun _ => true) c | none => false) | none => false) = true := by decide +kernel
theorem wk_one {f : Nat} (h : wkF f = true) : ∃ fn c, Tryz.prog.funcs[f]? = some fn ∧ (fn.name == "runtime.NumGoroutine") = false ∧ fn.body = some c ∧ okC Tryz.prog.toTables wkF (fun _ => true) c = true := by
 have hm : f ∈ wkL := by simpa [wkF] using h
 have := List.all_eq_true.1 wk_all f hm;cases hf : Tryz.prog.funcs[f]? with
 | none => rw [hf] at this; cases this
 | some fn =>
  rw [hf] at this;dsimp only at this;cases hb : fn.body with
  | none => rw [hb] at this; simp at this
  | some c =>
   rw [hb] at this;simp only [Bool.and_eq_true] at this;exact ⟨fn, c, rfl, by simpa using this.1, hb, this.2⟩
theorem wk_fine (noT:TypeId) (off:Nat):∀ f,(wctx Tryz.prog wkF noT off).F f=true→Fine (wctx Tryz.prog wkF noT off) f:=fun f h=>by
 obtain ⟨fn,c,h1,_,h3,h4⟩:=wk_one h;exact ⟨rfl,fn,c,h1,h3,h4⟩
theorem wk_ok (noT : TypeId) (off : Nat) : CtxOk (wctx Tryz.prog wkF noT off) := by
 have k : ∀ f, wkF f = true → ∃ fn, Tryz.prog.funcs[f]? = some fn ∧ (fn.name == "runtime.NumGoroutine") = false ∧ fn.body.isNone = false := fun f h => by
  obtain ⟨fn, c, h1, h2, h3, _⟩ := wk_one h;exact ⟨fn, h1, h2, by rw [h3]; rfl⟩
 exact ⟨k, k, fun f fn _ => resD_all fn, fun k f h => (by cases h), fun k f h => (by cases h)⟩
end Rn
namespace Rn
open Go.Conc Go.RowKit Go.Conc.Lib Go.ConcR.Gen Go.ConcN.Gen
open Go.ConcN (WgLive PayAt Has AtR0 RW AsideCell)
open Go.ConcR (KK WgAt stA smA rd wr mk Payload DC0)
theorem WayG.keep {P:Program} {main:Bool} {R:Bl→World→World→Prop} {D:Bl→World→World→Array Event→Prop} {Stop:Bl→Goroutine→World→Prop} {I:Bl→World→Prop} (hr:∀ own w w1,I own w→R own w w1→I own w1) (hd:∀ own w w' es,I own w→D own w w' es→I (Plus own w w') w')
  {own:Bl} {g:Goroutine} {w:World} (h:WayG P main R D Stop own g w) (hI:I own w):WayG P main R D (fun o g w=>Stop o g w∧I o w) own g w:=by
 induction h with
 | stop h=>exact .stop fun w1 h1=>⟨h w1 h1,hr _ _ _ hI h1⟩
 | step ng nw ne hg h1 _ ih=>exact .step ng nw ne hg h1 fun w1 h2=>ih w1 h2 (hd _ _ _ _ (hr _ _ _ hI h2) (h1 w1 h2).2)
def FinT (zs:Nat→List Int) (i:Nat) (own:Bl) (v:Value) (w:World):Prop :=
 ∃ A m c,v = .slice A m c∧m*4=(zs i).length∧((m=0∧A=none) ∨ 0<m∧∃ b off,A=some ⟨b,off,none⟩∧own b∧b<w.heap.size∧∀ k,k<4*m→w.cell? ⟨b,off+k,none⟩=some (.int .i64 (nth (zs i) k)))
theorem finT_ok {Q:Ph} {zs:Nat→List Int} (h:Q.fin=FinT zs):FinOk Q:=by
 refine ⟨fun i own own' v w w1 hf hs ho => ?_,fun _ _ _ _ _=>trivial⟩;rw [h] at hf ⊢;obtain ⟨A,m,c,e,hm,hx⟩:=hf;refine ⟨A,m,c,e,hm,hx.imp id fun ⟨h0,b,off,ea,hb,hlt,hc⟩=>⟨h0,b,off,ea,ho b hb,Nat.lt_of_lt_of_le hlt hs.size,fun k hk => ?_⟩⟩;rw [← hc k hk];simp only [World.cell?,hs.block b hlt hb]
structure WK (Q:Ph) (ro:Bl) (n c:Nat) (xs:List Int) (rb ib fb blk off i:Nat) (own:Bl) (w:World):Prop where
 dis:∀ b,ro b ∨ b=Q.Wg ∨ b=Q.C→b<w.heap.size∧¬ own b
 roC:∀ b,ro b→b ≠ Q.C
 ne:Q.Wg ≠ Q.C
 rrb:ro rb
 rib:ro ib
 rfb:ro fb
 rblk:ro blk
 live:WgLive Q.ty Q.Wg w
 pay:PayAt Q.C Q.n w
 rbx:w.cell? ⟨rb,0,none⟩=some (.slice (some ⟨blk,off,none⟩) n c)
 ibx:w.cell? ⟨ib,0,none⟩=some (.int .i64 i)
 fbx:w.cell? ⟨fb,0,none⟩=some (.slice (some ⟨Q.C,0,none⟩) n n)
 rows:∀ k,k<4*n→w.cell? ⟨blk,off+k,none⟩=some (.int .i64 (nth xs k))
section
variable {Q : Ph} {ro : Bl} {n c : Nat} {xs : List Int} {rb ib fb blk off i : Nat} {own : Bl} {w w1 : World}
theorem cell_blk {w w1:World} {b:Nat} (h:w1.heap[b]?=w.heap[b]?) (o:Nat):w1.cell? ⟨b,o,none⟩=w.cell? ⟨b,o,none⟩:=by simp only [World.cell?,h]
theorem WK.rely (h : WK Q ro n c xs rb ib fb blk off i own w) (r : RelyW Q ro i own w w1) : WK Q ro n c xs rb ib fb blk off i own w1 := by
  have k : ∀ b, ro b → w1.heap[b]? = w.heap[b]? := fun b hb => r.stays.block b (h.dis b (.inl hb)).1 (.inr hb)
  exact { h with
    dis := fun b hb => ⟨Nat.lt_of_lt_of_le (h.dis b hb).1 r.stays.size, (h.dis b hb).2⟩
    live := r.live h.live
    pay := r.pay h.pay
    rbx := (cell_blk (k _ h.rrb) 0).trans h.rbx
    ibx := (cell_blk (k _ h.rib) 0).trans h.ibx
    fbx := (cell_blk (k _ h.rfb) 0).trans h.fbx
    rows := fun j hj => (cell_blk (k _ h.rblk) _).trans (h.rows j hj) }
theorem WK.did {es : Array Event} (h : WK Q ro n c xs rb ib fb blk off i own w) (r : DidW Q ro i own w w1 es) : WK Q ro n c xs rb ib fb blk off i (Plus own w w1) w1 := by
  have k : ∀ b, ro b → w1.heap[b]? = w.heap[b]? := fun b hb => r.block b (h.dis b (.inl hb)).1 (h.dis b (.inl hb)).2 (h.roC b hb)
  exact { h with
    dis := fun b hb => ⟨Nat.lt_of_lt_of_le (h.dis b hb).1 r.size, fun x => x.elim (h.dis b hb).2 fun y => by have := (h.dis b hb).1; have := y.1; omega⟩
    live := by
      obtain ⟨st, sm, hl⟩ := h.live;exact ⟨st, sm, (r.block _ (h.dis _ (.inr (.inl rfl))).1 (h.dis _ (.inr (.inl rfl))).2 h.ne).trans hl⟩
    pay := r.pay (h.dis _ (.inr (.inr rfl))).2 h.pay
    rbx := (cell_blk (k _ h.rrb) 0).trans h.rbx
    ibx := (cell_blk (k _ h.rib) 0).trans h.ibx
    fbx := (cell_blk (k _ h.rfb) 0).trans h.fbx
    rows := fun j hj => (cell_blk (k _ h.rblk) _).trans (h.rows j hj) }
theorem ret_step {C:Ctx} (ok:CtxOk C) {r:Ren} {f f':Frame} {w v:World} {x:Value} (hf:FrR C r f f') (hw:WR C r w v) (ht:TE w v) (hl:f.leaving C.Px w (.returned x)) (c:Frame) (bs:List Frame) (main:Bool) :
  ∃ y v1 es r1,stepG C.P main (G f' (c :: bs)) v = .go (G (c.finish y) bs) v1 es∧Ext C r w v r1 w v1∧WR C r1 w v1∧(∀ e ∈ es,EvOk C r1 e)∧VR C r1 x y:=by
 cases hf with
 | @mk fid ts ts' todo todo' m hF hv hk =>
  obtain ⟨hm,_,_,fn,hfn,hres⟩:=hl;cases m with
  | false=>cases hm
  | true =>
   obtain ⟨fn',bd,h1,h2⟩:=hF.body;have h1':C.P.funcs[fid]?=some fn':=by rw [← h1]; exact hF.same
   have e:fn=fn':=Option.some.inj (hfn.symm.trans h1);subst e;have sim:=Sim.results fn (ok.res _ _ h1) hv w v #[] #[] hw ht (by simp);generalize hx:(results fn ts).runT C.Px w #[]=rx at sim;obtain ⟨R,es0⟩:=rx;have hrun:(results fn ts).run C.Px w=R:=by rw [← Sem.runT_fst _ _ _ #[],hx]
   have hres':(results fn ts).run C.Px w = .ok x w:=hres;rw [hrun] at hres';subst hres';obtain ⟨y,v1,fs1,r1,e1,x1,hw1,ht1,hf1,q1⟩:=sim.1 _ _ _ rfl;have hrun1:(results fn ts').run C.P v = .ok y v1:=by rw [← Sem.runT_fst _ _ _ #[],e1]
   exact ⟨y,v1,_,r1,stepG_leaveE h1' hrun1,x1,hw1,fun f1 hf1'=>hf1 f1 (by have:=mem_seen hf1'; rw [Sem.events,e1] at this; exact this),q1⟩
noncomputable abbrev winW (w:World) (n:Nat) (xs:List Int) (noT:TypeId):World:=winWorld w Tryz.prog.globals.size ((Array.range (4*n)).map fun k=>Value.int .i64 (nth xs k)) noT
theorem call_row {zs:Nat→List Int} {noT:TypeId} (hno:Tryz.prog.toTables.info? noT=none) (hn:0<n)
  (hlone:∀ w t d,Calls Tryz.prog 108 #[.slice (some ⟨Tryz.prog.globals.size,0,none⟩) n c,.int .i64 i] ((winW w n xs noT).tp t d) fun e w'=>∃ v,e = .returned v∧∃ A m c',v = .slice A m c'∧m*4=(zs i).length∧((m=0∧A=none) ∨ 0<m∧∃ b off,A=some ⟨b,off,none⟩∧b ≠ Tryz.prog.globals.size∧∀ k,k<4*m→w'.cell? ⟨b,off+k,none⟩=some (.int .i64 (nth (zs i) k))))
  {Stop:Bl→Goroutine→World→Prop} {cf:Frame} {cs:List Frame} (hW:WK Q ro n c xs rb ib fb blk off i own w) (hG:Tryz.prog.globals.size≤w.heap.size)
  (k:∀ own' v w',WK Q ro n c xs rb ib fb blk off i own' w'→FinT zs i own' v w'→WayG Tryz.prog false (RelyW Q ro i) (DidW Q ro i) Stop own' (G (cf.finish v) cs) w') :
  WayG Tryz.prog false (RelyW Q ro i) (DidW Q ro i) Stop own (G (Frame.enter Tryz.prog 108 #[.slice (some ⟨blk,off,none⟩) n c,.int .i64 i] .normal) (cf :: cs)) w:=by
 have h0:=hW.rows 0 (by omega);obtain ⟨c',T,z,hb⟩:∃ c' T z,w.heap[blk]?=some (.cells c' T z):=by
  unfold World.cell? at h0;revert h0
  cases w.heap[blk]? with
  | none=>intro h0; cases h0
  | some o=>cases o <;> intro h0 <;> first | exact ⟨_,_,_,rfl⟩ | cases h0
 have hcs:∀ (j:Nat) u,((Array.range (4*n)).map fun k=>Value.int .i64 (nth xs k))[j]?=some u→c'[j+off]?=some u∧∃ x,u = .int .i64 x:=by
  intro j u hu;rw [Array.getElem?_map] at hu;obtain ⟨y,hy,rfl⟩:=Option.map_eq_some_iff.1 hu;obtain ⟨hlt,rfl⟩:=Array.getElem?_eq_some_iff.1 hy;simp only [Array.size_range] at hlt;have:=hW.rows j hlt;simp only [World.cell?,hb] at this;refine ⟨?_,_,rfl⟩;rw [Nat.add_comm];simpa using this
 have hWR:=winWR (P:=Tryz.prog) (F:=wkF) (noT:=noT) (off:=off) (v:=w) hno hG hb hcs;have hres:=Res.of_calls (P:=(wctx Tryz.prog wkF noT off).Px) (hlone w);have hva:VAll (wctx Tryz.prog wkF noT off) (winR Tryz.prog.globals.size blk) #[.slice (some ⟨Tryz.prog.globals.size,0,none⟩) n c,.int .i64 i] #[.slice (some ⟨blk,off,none⟩) n c,.int .i64 i]:=by
  refine ⟨rfl,fun j x y hx hy => ?_⟩;match j,hx,hy with
  | 0,hx,hy=>cases hx; cases hy; exact .sl n c ⟨⟨rfl,rfl⟩,by simp [wctx],rfl⟩
  | 1,hx,hy=>cases hx; cases hy; exact .int _ _
  | j+2,hx,_=>simp at hx
 have hfr:FrR (wctx Tryz.prog wkF noT off) (winR Tryz.prog.globals.size blk) (Frame.enter Tryz.prog 108 #[.slice (some ⟨Tryz.prog.globals.size,0,none⟩) n c,.int .i64 i] .normal) (Frame.enter Tryz.prog 108 #[.slice (some ⟨blk,off,none⟩) n c,.int .i64 i] .normal) :=
  enter_FrR (C:=wctx Tryz.prog wkF noT off) (wk_fine noT off _ rfl) hva
 have hway:=way_of_res (main:=false) (bs:=cf :: cs) (ro:=ro) (own:=own) (wk_ok noT off) (by rintro ⟨k,h⟩; cases h) (fun _ _=>rfl) (wk_fine noT off) hres _ hres.acc (Path.refl _ _) hfr (LR.nil) hWR (by
  rintro a b ⟨rfl,rfl⟩;exact ⟨fun h=>absurd rfl h,fun _=>hW.rblk⟩)
 have hway2:=hway.toG.bind' (R':=RelyW Q ro i) (D':=DidW Q ro i) (Stop':=fun o g w=>∀ w1,RelyW Q ro i o w w1→AtEnd (wctx Tryz.prog wkF noT off) (fun b v w'=>b=false∧∃ A m c',v = .slice A m c'∧m*4=(zs i).length∧((m=0∧A=none) ∨ 0<m∧∃ b off,A=some ⟨b,off,none⟩∧b ≠ Tryz.prog.globals.size∧∀ k,k<4*m→w'.cell? ⟨b,off+k,none⟩=some (.int .i64 (nth (zs i) k)))) ro (cf :: cs) o g w1)
  (fun _ _ _ x=>x.stays) (fun _ _ _ _ x => .of_did x) fun o g w x => .stop fun w1 h1 w2 h2=>x w2 (RelyW.trans _ _ _ _ _ _ _ h1 h2).stays
 refine (hway2.keep (I:=fun o w=>WK Q ro n c xs rb ib fb blk off i o w) (fun _ _ _ x y=>x.rely y) (fun _ _ _ _ x y=>x.did y) hW).bind (RelyW.refl Q ro i) (fun _ _ _ x=>x) (fun _ _ _ _ x=>x) ?_;rintro o g w2 ⟨hend,hK⟩;have hrun:g.status = .running:=by
  obtain ⟨_,_,_,_,_,_,rfl,_⟩:=hend w2 (RelyW.refl _ _ _ _ _);rfl
 refine .next hrun fun w3 h3 => ?_
 obtain ⟨r,wl,f,f',eb,x,rfl,hf,hwr,hte,hin,⟨rfl,A,m,c2,rfl,hm,hx⟩,hends⟩:=hend w3 h3;have hlv:f.leaving Tryz.prog wl (.returned (.slice A m c2)):=by
  rcases hends with ⟨_,h⟩ | ⟨e,_⟩
  ·exact h
  ·cases e
 obtain ⟨y,v1,es,r1,hs,hext,hw1,hev,hvr⟩:=ret_step (wk_ok noT off) hf hwr hte hlv cf cs false;have hd:=hext.did (by rintro ⟨k,h⟩; cases h) hwr hw1 hin hev;refine ⟨_,v1,es,hs,.of_did hd,k _ y v1 ((hK.rely h3).did (.of_did hd)) ?_⟩;have hin1:=hext.within hwr hw1 hin;cases hvr with
 | sl0=>exact ⟨none,m,_,rfl,hm,.inl (hx.resolve_right (by rintro ⟨_,b,off,e,_⟩; cases e))⟩
 | slE a b =>
  rcases hx with ⟨_,e⟩ | ⟨hm0,_⟩
  ·cases e
  ·omega
 | @sl a b _ _ hab =>
  rcases hx with ⟨_,e⟩ | ⟨hm0,ab,ao,e,hne,hc⟩
  ·cases e
  cases e;refine ⟨some b,m,_,rfl,hm,.inr ⟨hm0,?_⟩⟩;obtain ⟨hr,ho,hsp⟩:=hab;have hnr:¬ (wctx Tryz.prog wkF noT off).RO ab:=hne;have hsh:(wctx Tryz.prog wkF noT off).sh ab=0:=hw1.shz _ hnr;obtain ⟨bb,bo,bsp⟩:=b;simp only at hr ho hsp;rw [hsh,Nat.add_zero] at ho;subst hsp;refine ⟨bb,bo,rfl,(hin1 _ _ hr).1 hnr,(hw1.lt _ _ hr).2,fun k hk => ?_⟩;have hck:=hc k hk;rw [← ho] at hck;obtain ⟨u,hu,hvu⟩:=hw1.cell (a:=⟨ab,bo+k,none⟩) (b:=⟨bb,bo+k,none⟩) ⟨hr,by simp [hsh],rfl⟩ hck;cases hvu;exact hu
end
end Rn
namespace Rn
open Go.Conc Go.RowKit Go.Conc.Lib Go.ConcR.Gen Go.ConcN.Gen
open Go.ConcN (WgLive PayAt Has AtR0 RW AsideCell)
open Go.ConcR (KK WgAt stA smA rd wr mk Payload DC0)
noncomputable def wbot:Frame := { (default:Frame) with fn:=Tryz.prog.funcs.size,defers := [],mode := .panicking [goexitEntry] }
abbrev wcall (Wg rb ib fb:Nat):Deferred := { target := .fn (.func 106) #[.pointer (some ⟨Wg,0,none⟩),.pointer (some ⟨rb,0,none⟩),.pointer (some ⟨ib,0,none⟩),.pointer (some ⟨fb,0,none⟩)],args := #[] }
noncomputable def wbody:Code:=Tryz.f106.body.getD .skip
theorem wquits (T:Array Value):QuitsD Tryz.prog 2 0 (G { (baseD 106).at ⟨T,[]⟩ [] with mode := .returning } [wbot]):=by
 refine QuitsD.ctl (g':=G wbot []) rfl (fun w => ?_) ?_
 ·simp [G,stepG,unwind,doReturn,results,Frame.at,baseD,wbot,Tryz.func106,Tryz.f106,seen,GStep.after,goexitEntry]
 refine QuitsD.ctl (g' := { G wbot [] with status := .finished }) rfl (fun w => ?_) ⟨rfl,rfl⟩;simp [G,stepG,unwind,wbot,goexitEntry,Frame.catches];rfl
theorem wborn (Wg rb ib fb:Nat) (w:World):stepG Tryz.prog false (born Tryz.prog (wcall Wg rb ib fb)) w =
  .go (G ((baseD 106).at ⟨#[.pointer (some ⟨Wg,0,none⟩),.pointer (some ⟨rb,0,none⟩),.pointer (some ⟨ib,0,none⟩),.pointer (some ⟨fb,0,none⟩),undef,undef,undef,undef,undef,undef],[]⟩ [.code wbody]) [wbot]) w #[]:=by
 simp [born,wcall,stepG,unwind,callDeferred,invoke,callFunc,Tryz.func106,Tryz.f106,seen,GStep.after,G,Frame.enter,Frame.at,baseD,wbot,wbody]
theorem wname : (Tryz.f108.name == "runtime.NumGoroutine") = false := by kernel_rfl
theorem wloud:(Tryz.prog.funcs[(baseD 106).fn]?).any (·.norace)=false:=by kernel_rfl
theorem evRd {own ro:Bl} {b:Nat} (h:ro b):EvOwn own ro ⟨.cell ⟨b,0,none⟩,false,false⟩ := .inl ⟨rfl,.inl ⟨_,rfl,.inr ⟨h,rfl⟩⟩⟩
theorem stepG_callE {P : Program} {main : Bool} {b : Frame} {a : Act} {k : List Item} {cs : List Frame} {w : World} {ops : Array Oper} {i : Nat} {rest : List Nat} {o : Oper} {f : FuncId} {fn : Func} {c : Code} {args : Array Operand} {ats : Array TypeId} {xs : Array Value}
  (ho : ops[i]? = some o) (hw : Region.wanted o (yielded ops a.tmps) = true) (hk : b.kind ≠ .early) (hop : o.op = .call { callee := .value (.func f), args, argTypes := ats })
  (hf : P.funcs[f]? = some fn) (hname : (fn.name == "runtime.NumGoroutine") = false) (hb : fn.body = some c) (hx : args.map a.eval = xs) :
  stepG P main (G (b.at a (.inRegion ops (i :: rest) :: k)) cs) w = .go (G (Frame.enter P f xs .normal) (b.at a (.inRegion ops (i :: rest) :: k) :: cs)) w #[] := by
 have hb' : fn.body.isNone = false := by rw [hb]; rfl
 rw [stepG_enter ho hw hk (run_call_body hop hf hname hb'), hx];have : listed P b.fn a o w = #[] := by unfold listed; rw [events_call_body hop hf hname hb']; exact seen_none P _
 rw [this]
theorem stepG_storeS {main:Bool} {b:Frame} {a:Act} {kk:List Item} {cs:List Frame} {w:World} {ops:Array Oper} {i:Nat} {rest:List Nat} {o:Oper} {x y:Operand} (ho:ops[i]?=some o) (hw:Region.wanted o (yielded ops a.tmps)=true) (hk:b.kind ≠ .early) (hop:o.op = .store 71 x y)
  {ad:Addr} {A:Option Addr} {m c:Nat} {u:Value} (hx:a.eval x = .pointer (some ad)) (hy:a.eval y = .slice A m c) (hc:w.cell? ad=some u) (hz:w.frozen? ad=false) (hq:(Tryz.prog.funcs[b.fn]?).any (·.norace)=false) :
  stepG Tryz.prog main (G (b.at a (.inRegion ops (i :: rest) :: kk)) cs) w = .go (G (b.at (a.put o.dst undef) (.inRegion ops rest :: kk)) cs) (w.setCell ad (.slice A m c)) #[⟨.cell ad,true,false⟩]:=by
 have hr:(execOp a.eval o).run Tryz.prog w = .ok .skip (w.setCell ad (.slice A m c)):=by
  unfold execOp;simp only [hop,hx,hy];simp [go_sem,stored,hc,hz]
 have he:(execOp a.eval o).events Tryz.prog w #[] = #[⟨.cell ad,true,false⟩]:=by
  unfold execOp;simp only [hop,hx,hy];simp [go_sem,storedEv,hc,hz]
 rw [stepG_none ho hw hk hr];unfold listed;rw [he,seen_eq hq (by simp)]
section
variable {Q : Ph} {ro : Bl} {n c : Nat} {xs : List Int} {rb ib fb blk off i : Nat} {own : Bl} {w w1 : World}
theorem payCell (hp:PayAt Q.C n w) (hi:i<n):∃ u,w.cell? ⟨Q.C,i,none⟩=some u∧w.frozen? ⟨Q.C,i,none⟩=false:=by
 obtain ⟨arr,h1,h2⟩:=hp;exact ⟨arr[i]'(by omega),by simp [World.cell?,h1,h2,hi],by simp [World.frozen?,h1]⟩
theorem setC (hp:PayAt Q.C n w) (v:Value):AsideCell Q.C n i w (w.setCell ⟨Q.C,i,none⟩ v):=by
 have hA:=aside_setCell w ⟨Q.C,i,none⟩ v;obtain ⟨arr,h1,h2⟩:=hp;have hb:(w.setCell ⟨Q.C,i,none⟩ v).heap[Q.C]?=some (.cells (arr.setIfInBounds i v) Payload.ety):=by
  rw [setCell_eq_setRow w Q.C i arr _ (0,0) _ h1,setRow_heap w Q.C _ _ _ _ h1]
 refine ⟨hA.tape,hA.os,hA.output,hA.size,fun b hb'=>hA.block b hb',fun _=>⟨_,hb,by simpa using h2⟩,fun i' hi' => ?_⟩;simp [World.cell?,hb,h1,Array.getElem?_setIfInBounds_ne (Ne.symm hi')]
theorem hasC (hp:PayAt Q.C n w) (hi:i<n) (v:Value):Has Q.C i v (w.setCell ⟨Q.C,i,none⟩ v):=by
 obtain ⟨arr,h1,h2⟩:=hp;have hb:(w.setCell ⟨Q.C,i,none⟩ v).heap[Q.C]?=some (.cells (arr.setIfInBounds i v) Payload.ety):=by
  rw [setCell_eq_setRow w Q.C i arr _ (0,0) _ h1,setRow_heap w Q.C _ _ _ _ h1]
 simp [Has,World.cell?,hb,h2,hi]
theorem AsideCell.didW (hn:Q.n=n) (h:AsideCell Q.C n i w w1):DidW Q ro i own w w1 #[⟨.cell ⟨Q.C,i,none⟩,true,false⟩] where
 tape:=h.tape
 os:=h.os
 output:=h.output
 size:=Nat.le_of_eq h.size.symm
 block b _ _ hb:=h.block b hb
 pay _ hp:=by rw [hn] at hp ⊢; exact h.pay hp
 cells _ _ k hk:=h.cells k hk
 ev e he:=by simp at he; subst he; exact .inr ⟨rfl,rfl⟩
theorem didW_draw:DidW Q ro i own w { w with drawn:=w.drawn+1 } #[]:=⟨rfl,rfl,rfl,Nat.le_refl _,fun _ _ _ _=>rfl,fun _ x=>x,fun _ _ _ _=>rfl,fun e he=>by simp at he⟩
def onB (b:Bool) (v:Value):Value:=if b then v else undef
structure WJ (Q:Ph) (ro:Bl) (n c:Nat) (xs:List Int) (rb ib fb blk off i:Nat) (zs:Nat→List Int) (l4 l6:Bool) (t8:Value) (own:Bl) (w:World):Prop where
 wk:WK Q ro n c xs rb ib fb blk off i own w
 f4:l4=true→FinT zs i own t8 w
 f6:l6=true→Has Q.C i t8 w
theorem WJ.rely {zs:Nat→List Int} {l4 l6:Bool} {t8:Value} (fo:FinOk Q) (hfin:Q.fin=FinT zs) (h:WJ Q ro n c xs rb ib fb blk off i zs l4 l6 t8 own w) (r:RelyW Q ro i own w w1):WJ Q ro n c xs rb ib fb blk off i zs l4 l6 t8 own w1 :=
 ⟨h.wk.rely r,fun e=>by
  have:=fo.stays i own own t8 w _ (by rw [hfin]; exact h.f4 e) (r.stays.less fun b hb => .inl hb) fun _ x=>x
  rwa [hfin] at this,fun e=>r.cell.trans (h.f6 e)⟩
set_option maxHeartbeats 8000000 in
theorem worker_way {zs:Nat→List Int} {noT:TypeId} (hno:Tryz.prog.toTables.info? noT=none) (hP:Q.P=Tryz.prog) (hty:Q.ty=wgLink.tWg) (hfin:Q.fin=FinT zs) (hn:Q.n=n) (hi:i<n)
  (hlone:∀ w t d,Calls Tryz.prog 108 #[.slice (some ⟨Tryz.prog.globals.size,0,none⟩) n c,.int .i64 i] ((winW w n xs noT).tp t d) fun e w'=>∃ v,e = .returned v∧∃ A m c',v = .slice A m c'∧m*4=(zs i).length∧((m=0∧A=none) ∨ 0<m∧∃ b off,A=some ⟨b,off,none⟩∧b ≠ Tryz.prog.globals.size∧∀ k,k<4*m→w'.cell? ⟨b,off+k,none⟩=some (.int .i64 (nth (zs i) k))))
  (hF:WK Q ro n c xs rb ib fb blk off i (fun _=>False) w) (hG:Tryz.prog.globals.size≤Q.Wg) :
  WayG Tryz.prog false (RelyW Q ro i) (DidW Q ro i) (AtRel Q i) (fun _=>False) (born Tryz.prog (wcall Q.Wg rb ib fb)) w:=by
 have fo:=finT_ok hfin;have hii:(i:Int)<(n:Int):=by omega
 have hi0:(0:Int)≤(i:Int):=by omega
 refine .next rfl fun w₁ h₁=>⟨_,w₁,#[],wborn _ _ _ _ w₁,⟨rfl,rfl,rfl,Nat.le_refl _,fun _ _ _ _=>rfl,fun _ x=>x,fun _ _ _ _=>rfl,fun e he=>by simp at he⟩,?_⟩
 replace hF:=hF.rely h₁
 clear h₁;rw [Plus.same rfl];simp only [wbody,Tryz.f106,Option.getD_some];refine way_sil (n:=6) ?_;u_c stepG_seq WK.rely hF
 u_reg WK.rely hF
 u_defer WK.rely hF
 u_c stepG_region_end WK.rely hF
 refine Goes.stop fun w₂ h₂ => ?_
 replace hF:=hF.rely h₂
 clear h₂;refine .next rfl fun w₃ h₃=>⟨_,_,_,stepG_region_draw,didW_draw,?_⟩
 replace hF:=hF.rely h₃
 clear h₃;have hpl:Plus (fun _=>False) w₃ { w₃ with drawn:=w₃.drawn+1 }=fun _=>False:=Plus.same rfl
 replace hF:=hF.did (es := #[]) didW_draw
 rw [hpl] at hF ⊢;generalize hw4:({ w₃ with drawn:=w₃.drawn+1 }:World)=w4;rw [hw4] at hF;clear hw4;rw [schedule_any (by kernel_rfl)];refine way_region (fun l own a w=>∃ l0 l1 l2 l3 l4 l5 l6 t8 t9,l = #[l0,l1,l2,l3,l4,l5,l6] ∧
   a = ⟨#[.pointer (some ⟨Q.Wg,0,none⟩),.pointer (some ⟨rb,0,none⟩),.pointer (some ⟨ib,0,none⟩),.pointer (some ⟨fb,0,none⟩),onB l0 (.slice (some ⟨Q.C,0,none⟩) n n),onB l1 (.int .i64 i),onB l2 (.slice (some ⟨blk,off,none⟩) n c),onB l3 (.int .i64 i),t8,t9],[dcall 107 #[.pointer (some ⟨Q.Wg,0,none⟩)]]⟩ ∧
   WJ Q ro n c xs rb ib fb blk off i zs l4 l6 t8 own w∧(l5=true→t9 = .pointer (some ⟨Q.C,i,none⟩))∧(l6=true→l4=true)) ?_ ?_ _ _ _ _ _ _ ?_ ?_
 case refine_1 =>
  rintro l own a w j rest ⟨l0,l1,l2,l3,l4,l5,l6,t8,t9,rfl,rfl,hF,h5,h64⟩ hm kont;have hj:j<7:=by simpa using List.mem_range.1 (List.mem_filter.1 hm).1
  have hm2:=(List.mem_filter.1 hm).2;match j,hj with
  | 0,_ =>
   refine way_rd (n:=1) ?_;g_opw (WJ.rely fo hfin) hF [WK.rbx (WJ.wk hF),WK.ibx (WJ.wk hF),WK.fbx (WJ.wk hF)] rfl (by first | exact evRd (WK.rfb (WJ.wk hF)) | exact evRd (WK.rib (WJ.wk hF)) | exact evRd (WK.rrb (WJ.wk hF)))
   exact Goes.stop fun w1 h1=>kont _ _ _ ⟨true,l1,l2,l3,l4,l5,l6,t8,t9,rfl,rfl,WJ.rely fo hfin hF h1,h5,h64⟩
  | 1,_ =>
   refine way_rd (n:=1) ?_;g_opw (WJ.rely fo hfin) hF [WK.rbx (WJ.wk hF),WK.ibx (WJ.wk hF),WK.fbx (WJ.wk hF)] rfl (by first | exact evRd (WK.rfb (WJ.wk hF)) | exact evRd (WK.rib (WJ.wk hF)) | exact evRd (WK.rrb (WJ.wk hF)))
   exact Goes.stop fun w1 h1=>kont _ _ _ ⟨l0,true,l2,l3,l4,l5,l6,t8,t9,rfl,rfl,WJ.rely fo hfin hF h1,h5,h64⟩
  | 2,_ =>
   refine way_rd (n:=1) ?_;g_opw (WJ.rely fo hfin) hF [WK.rbx (WJ.wk hF),WK.ibx (WJ.wk hF),WK.fbx (WJ.wk hF)] rfl (by first | exact evRd (WK.rfb (WJ.wk hF)) | exact evRd (WK.rib (WJ.wk hF)) | exact evRd (WK.rrb (WJ.wk hF)))
   exact Goes.stop fun w1 h1=>kont _ _ _ ⟨l0,l1,true,l3,l4,l5,l6,t8,t9,rfl,rfl,WJ.rely fo hfin hF h1,h5,h64⟩
  | 3,_ =>
   refine way_rd (n:=1) ?_;g_opw (WJ.rely fo hfin) hF [WK.rbx (WJ.wk hF),WK.ibx (WJ.wk hF),WK.fbx (WJ.wk hF)] rfl (by first | exact evRd (WK.rfb (WJ.wk hF)) | exact evRd (WK.rib (WJ.wk hF)) | exact evRd (WK.rrb (WJ.wk hF)))
   exact Goes.stop fun w1 h1=>kont _ _ _ ⟨l0,l1,l2,true,l4,l5,l6,t8,t9,rfl,rfl,WJ.rely fo hfin hF h1,h5,h64⟩
  | 4,_ =>
   have hb:l4=false∧l2=true∧l3=true:=by simpa [Region.binds] using hm2
   obtain ⟨rfl,rfl,rfl⟩:=hb;have h6f:l6=false:=by
    cases l6 with
    | false=>rfl
    | true=>exact absurd (h64 rfl) (by simp)
   subst h6f;refine .next rfl fun w₁ h₁=>⟨_,_,_,stepG_callE rfl rfl (by k_ne) rfl Tryz.func108 wname rfl (xs := #[.slice (some ⟨blk,off,none⟩) n c,.int .i64 i]) (by simp [Act.eval,onB]),⟨rfl,rfl,rfl,Nat.le_refl _,fun _ _ _ _=>rfl,fun _ x=>x,fun _ _ _ _=>rfl,fun e he=>by simp at he⟩,?_⟩
   replace hF:=WJ.rely fo hfin hF h₁
   rw [Plus.same rfl];refine call_row hno (by omega) hlone (WJ.wk hF) (by have:=((WJ.wk hF).dis _ (.inr (.inl rfl))).1; omega) fun own' v w' hK hf => ?_
   rw [Frame.finish_at];exact kont _ _ _ ⟨l0,l1,true,true,true,l5,false,v,t9,rfl,rfl,⟨hK,fun _=>hf,by simp⟩,h5,by simp⟩
  | 5,_ =>
   have hb:l5=false∧l0=true∧l1=true:=by
    simp [Region.binds] at hm2;simp [hm2]
   obtain ⟨rfl,rfl,rfl⟩:=hb;simp only [onB,if_true];refine way_sil (n:=1) ?_;u_op (WJ.rely fo hfin) hF
   exact Goes.stop fun w1 h1=>kont _ _ _ ⟨true,true,l2,l3,l4,true,l6,t8,_,rfl,by simp [onB],WJ.rely fo hfin hF h1,fun _=>rfl,h64⟩
  | 6,_ =>
   have hb:l6=false∧l5=true∧l4=true:=by
    simp [Region.binds] at hm2;simp [hm2]
   obtain ⟨rfl,rfl,rfl⟩:=hb;obtain rfl:=h5 rfl;refine .next rfl fun w₁ h₁ => ?_
   replace hF:=WJ.rely fo hfin hF h₁
   obtain ⟨A,m,c2,rfl,hm8⟩:=hF.f4 rfl;have hpay:PayAt Q.C n w₁:=by have:=(WJ.wk hF).pay; rwa [hn] at this
   obtain ⟨u,hu1,hu2⟩:=payCell hpay hi;have hd:DidW Q ro i own w₁ (w₁.setCell ⟨Q.C,i,none⟩ (.slice A m c2)) #[⟨.cell ⟨Q.C,i,none⟩,true,false⟩]:=AsideCell.didW hn (setC hpay _);refine ⟨_,_,_,stepG_storeS rfl rfl (by k_ne) rfl rfl rfl hu1 hu2 wloud,hd,kont _ _ _ ⟨l0,l1,l2,l3,true,true,true,_,_,rfl,rfl,⟨(WJ.wk hF).did hd,fun _ => ?_,fun _=>hasC hpay hi _⟩,fun _=>rfl,fun _=>rfl⟩⟩;have:=fo.stays i own (Plus own w₁ (w₁.setCell ⟨Q.C,i,none⟩ (.slice A m c2))) (.slice A m c2) w₁ (w₁.setCell ⟨Q.C,i,none⟩ (.slice A m c2)) (by rw [hfin]; exact hF.f4 rfl) ⟨hd.tape,hd.os,hd.output,hd.size,fun b hb ho=>(setC hpay _).block b (by rintro rfl; exact ((WJ.wk hF).dis _ (.inr (.inr rfl))).2 ho)⟩ fun _ x => .inl x
   rwa [hfin] at this
 case refine_2 =>
  rintro l own a w ⟨l0,l1,l2,l3,l4,l5,l6,t8,t9,rfl,rfl,hF,h5,h64⟩ hr;have hall:=List.filter_eq_nil_iff.1 hr;have e0:=hall 0 (by simp);have e1:=hall 1 (by simp);have e2:=hall 2 (by simp);have e3:=hall 3 (by simp);have e4:=hall 4 (by simp);have e5:=hall 5 (by simp);have e6:=hall 6 (by simp);simp [Region.binds] at e0 e1 e2 e3;subst e0; subst e1; subst e2; subst e3;simp [Region.binds] at e4;subst e4;simp [Region.binds] at e5;subst e5;simp [Region.binds] at e6;subst e6;clear hall hr;refine way_sil (n:=4) ?_;u_c stepG_region_end (WJ.rely fo hfin) hF
  u_c stepG_end (WJ.rely fo hfin) hF
  g_unwB (WJ.rely fo hfin) hF Tryz.func107 (nm_done wgLink) Tryz.f107
  refine Goes.stop fun w1 h1 => ?_
  replace hF:=WJ.rely fo hfin hF h1
  have hL:WgLib Q.P wgLink:=by rw [hP]; exact wgLib
  have hA:=fun (c:Frame) (hc:c.mode = .returning) (hq:QuitsD Q.P 2 0 (G c [wbot]))=>doneWay (ro:=ro) (i:=i) hL hty fo hc hq w1 ⟨(WJ.wk hF).live,hF.f6 rfl⟩ (by rw [hfin]; exact hF.f4 rfl)
  simp only [body_done,doneFn,Option.getD_some] at hA;rw [hP] at hA;exact hA _ rfl (wquits _)
 case refine_3=>exact ⟨false,false,false,false,false,false,false,undef,undef,rfl,rfl,⟨hF,by simp,by simp⟩,by simp,by simp⟩
 case refine_4=>simp
end
end Rn
end Go.Proofs.YtjcgklifabcfkaaGreat
