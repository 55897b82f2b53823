/-
  Texts that the law stands on, part 17.
-/
import Derived.Test.YtbpnbhemdbgmjaaGreatC1
import Derived.Test.YtbpnbhemdbgmjaaGreatC11
import Derived.Test.YtbpnbhemdbgmjaaGreatC16
import Derived.Test.YtbpnbhemdbgmjaaGreatProg
import Derived.KernelRfl
import Derived.WalkKit
import Derived.Outline
set_option linter.unusedVariables false
set_option linter.unusedSimpArgs false
section
namespace Go.Proofs.Tryzx
def rd3 : Code := (.region 7 #[{ dst := some 9, op := .call { callee := .value (.func 82), args := #[.tmp 0], argTypes := #[61] }, type := 34, pos := "", after := #[], guard := none }] false)
def rd4 : Code := (.region 8 #[{ dst := some 10, op := .call { callee := .builtin .append, args := #[.const (.slice none 0 0), .tmp 9], argTypes := #[34, 34] }, type := 34, pos := "", after := #[], guard := none }] false)
def bodyX : Code := .seq (.seq (.region 0 #[{ dst := some 1, op := .move (.const (.int .i64 0)), type := 3, pos := "", after := #[], guard := none }, { dst := some 2, op := .call { callee := .builtin .len, args := #[.tmp 0], argTypes := #[61] }, type := 3, pos := "", after := #[], guard := none }, { dst := some 3, op := .binOp .lss 3 (.tmp 2) (.const (.int .i64 1048577)) 3, type := 4, pos := "", after := #[{ on := 1, ground := .data }], guard := none }] false) (.seq (.cond (.tmp 3) .skip (.exit 9)) (.seq (.block 0 (.loop (.seq (.region 1 #[{ dst := some 4, op := .binOp .lss 3 (.tmp 1) (.tmp 2) 3, type := 4, pos := "", after := #[], guard := none }] false) (.seq (.cond (.tmp 4) .skip (.exit 0)) (.seq (.region 2 #[{ dst := some 5, op := .indexAddr 61 (.tmp 0) (.tmp 1), type := 0, pos := "", after := #[], guard := none }, { dst := some 6, op := .fieldAddr 65 (.tmp 5) 0, type := 0, pos := "", after := #[{ on := 0, ground := .data }], guard := none }, { dst := some 7, op := .load 3 (.tmp 6), type := 3, pos := "", after := #[{ on := 1, ground := .data }], guard := none }, { dst := some 8, op := .binOp .mul 3 (.tmp 7) (.const (.int .i64 1)) 3, type := 3, pos := "", after := #[{ on := 2, ground := .data }], guard := none }] false) (.seq (.region 3 #[{ dst := some 5, op := .indexAddr 61 (.tmp 0) (.tmp 1), type := 0, pos := "", after := #[], guard := none }, { dst := some 6, op := .fieldAddr 65 (.tmp 5) 1, type := 0, pos := "", after := #[{ on := 0, ground := .data }], guard := none }, { dst := some 7, op := .load 3 (.tmp 6), type := 3, pos := "", after := #[{ on := 1, ground := .data }], guard := none }, { dst := some 8, op := .binOp .mul 3 (.tmp 7) (.const (.int .i64 1)) 3, type := 3, pos := "", after := #[{ on := 2, ground := .data }], guard := none }] false) (.seq (.region 4 #[{ dst := some 5, op := .indexAddr 61 (.tmp 0) (.tmp 1), type := 0, pos := "", after := #[], guard := none }, { dst := some 6, op := .fieldAddr 65 (.tmp 5) 2, type := 0, pos := "", after := #[{ on := 0, ground := .data }], guard := none }, { dst := some 7, op := .load 3 (.tmp 6), type := 3, pos := "", after := #[{ on := 1, ground := .data }], guard := none }, { dst := some 8, op := .binOp .mul 3 (.tmp 7) (.const (.int .i64 1)) 3, type := 3, pos := "", after := #[{ on := 2, ground := .data }], guard := none }] false) (.seq (.region 5 #[{ dst := some 5, op := .indexAddr 61 (.tmp 0) (.tmp 1), type := 0, pos := "", after := #[], guard := none }, { dst := some 6, op := .fieldAddr 65 (.tmp 5) 3, type := 0, pos := "", after := #[{ on := 0, ground := .data }], guard := none }, { dst := some 7, op := .load 3 (.tmp 6), type := 3, pos := "", after := #[{ on := 1, ground := .data }], guard := none }, { dst := some 8, op := .binOp .mul 3 (.tmp 7) (.const (.int .i64 1)) 3, type := 3, pos := "", after := #[{ on := 2, ground := .data }], guard := none }] false) (.region 6 #[{ dst := some 1, op := .binOp .add 3 (.tmp 1) (.const (.int .i64 1)) 3, type := 3, pos := "", after := #[], guard := none }] false))))))))) (.seq (.region 9 #[{ dst := some 11, op := .binOp .eql 3 (.tmp 2) (.const (.int .i64 0)) 3, type := 4, pos := "", after := #[], guard := none }] false) (.cond (.tmp 11) (.seq (.region 10 #[{ dst := some 12, op := .binOp .eql 61 (.tmp 0) (.const (.slice none 0 0)) 61, type := 4, pos := "", after := #[], guard := none }] false) (.cond (.tmp 12) .skip (.exit 9))) .skip))))) (.seq (.region 7 #[{ dst := some 9, op := .call { callee := .value (.func 82), args := #[.tmp 0], argTypes := #[61] }, type := 34, pos := "", after := #[], guard := none }] false) (.seq (.region 8 #[{ dst := some 10, op := .call { callee := .builtin .append, args := #[.const (.slice none 0 0), .tmp 9], argTypes := #[34, 34] }, type := 34, pos := "", after := #[], guard := none }] false) .ret))
noncomputable def f68 : Func := { name := Tryz.f68.name, origin := "", params := #[61], resultTypes := #[34], nfree := 0, ntmps := 13, results := #[.tmp 10], body := some bodyX, norace := false, tmpNames := #[] }
noncomputable def funcs : Array Func :=
(([Tryz.f0, Tryz.f1, Tryz.f2, Tryz.f3, Tryz.f4, Tryz.f5,
      Tryz.f6, Tryz.f7, Tryz.f8, Tryz.f9, Tryz.f10,
      Tryz.f11, Tryz.f12, Tryz.f13, Tryz.f14, Tryz.f15,
      Tryz.f16, Tryz.f17, Tryz.f18, Tryz.f19, Tryz.f20,
      Tryz.f21, Tryz.f22, Tryz.f23, Tryz.f24, Tryz.f25,
      Tryz.f26, Tryz.f27, Tryz.f28, Tryz.f29, Tryz.f30,
      Tryz.f31, Tryz.f32, Tryz.f33, Tryz.f34, Tryz.f35,
      Tryz.f36, Tryz.f37, Tryz.f38, Tryz.f39, Tryz.f40,
      Tryz.f41, Tryz.f42, Tryz.f43, Tryz.f44, Tryz.f45,
      Tryz.f46, Tryz.f47, Tryz.f48, Tryz.f49, Tryz.f50,
      Tryz.f51, Tryz.f52].append
    [Tryz.f53, Tryz.f54, Tryz.f55, Tryz.f56, Tryz.f57,
     Tryz.f58, Tryz.f59, Tryz.f60, Tryz.f61, Tryz.f62,
     Tryz.f63, Tryz.f64, Tryz.f65, Tryz.f66, Tryz.f67,
     f68, Tryz.f69, Tryz.f70, Tryz.f71, Tryz.f72,
     Tryz.f73, Tryz.f74, Tryz.f75, Tryz.f76, Tryz.f77,
     Tryz.f78, Tryz.f79, Tryz.f80, Tryz.f81, Tryz.f82,
     Tryz.f83, Tryz.f84, Tryz.f85, Tryz.f86, Tryz.f87,
     Tryz.f88, Tryz.f89, Tryz.f90, Tryz.f91, Tryz.f92,
     Tryz.f93, Tryz.f94, Tryz.f95, Tryz.f96, Tryz.f97,
     Tryz.f98, Tryz.f99, Tryz.f100, Tryz.f101, Tryz.f102,
     Tryz.f103, Tryz.f104, Tryz.f105, Tryz.f106]).append
  ([Tryz.f107, Tryz.f108, Tryz.f109, Tryz.f110, Tryz.f111,
     Tryz.f112, Tryz.f113, Tryz.f114, Tryz.f115, Tryz.f116,
     Tryz.f117, Tryz.f118, Tryz.f119, Tryz.f120, Tryz.f121,
     Tryz.f122, Tryz.f123, Tryz.f124, Tryz.f125, Tryz.f126,
     Tryz.f127, Tryz.f128, Tryz.f129, Tryz.f130, Tryz.f131,
     Tryz.f132, Tryz.f133, Tryz.f134, Tryz.f135, Tryz.f136,
     Tryz.f137, Tryz.f138, Tryz.f139, Tryz.f140, Tryz.f141,
     Tryz.f142, Tryz.f143, Tryz.f144, Tryz.f145, Tryz.f146,
     Tryz.f147, Tryz.f148, Tryz.f149, Tryz.f150, Tryz.f151,
     Tryz.f152, Tryz.f153, Tryz.f154, Tryz.f155, Tryz.f156,
     Tryz.f157, Tryz.f158, Tryz.f159].append
   [Tryz.f160, Tryz.f161, Tryz.f162, Tryz.f163, Tryz.f164,
    Tryz.f165, Tryz.f166, Tryz.f167, Tryz.f168, Tryz.f169,
    Tryz.f170, Tryz.f171, Tryz.f172, Tryz.f173, Tryz.f174,
    Tryz.f175, Tryz.f176, Tryz.f177, Tryz.f178, Tryz.f179,
    Tryz.f180, Tryz.f181, Tryz.f182, Tryz.f183, Tryz.f184,
    Tryz.f185, Tryz.f186, Tryz.f187, Tryz.f188, Tryz.f189,
    Tryz.f190, Tryz.f191, Tryz.f192, Tryz.f193, Tryz.f194,
    Tryz.f195, Tryz.f196, Tryz.f197, Tryz.f198, Tryz.f199,
    Tryz.f200, Tryz.f201, Tryz.f202, Tryz.f203, Tryz.f204,
    Tryz.f205, Tryz.f206, Tryz.f207, Tryz.f208, Tryz.f209,
    Tryz.f210, Tryz.f211, Tryz.f212, Tryz.f213])).toArray
noncomputable def prog : Program := { toTables := Tryz.progTables, funcs := funcs }
theorem under_tb {p q : Program} (h : p.toTables = q.toTables) (t : TypeId) : p.underlying t = q.underlying t := by
 cases p; cases q; simp only at h; subst h; rfl
theorem depth_tb {p q : Program} (h : p.toTables = q.toTables) : p.depth = q.depth := by
 cases p; cases q; simp only at h; subst h; rfl
theorem tables_eq : prog.toTables = Tryz.prog.toTables := rfl
@[simp] theorem info_x (t : TypeId) : prog.info? t = Tryz.prog.info? t := rfl
@[simp] theorem underlying_x (t : TypeId) : prog.underlying t = Tryz.prog.underlying t := under_tb tables_eq t
@[simp] theorem depth_x : prog.depth = Tryz.prog.depth := depth_tb tables_eq
@[simp] theorem run_underlying_x (t : TypeId) (w : World) : Sem.run prog (underlying t) w = Sem.run Tryz.prog (underlying t) w := by
 simp only [underlying, program, Bind.bind, Sem.bind, Sem.run, underlying_x]
 cases Tryz.prog.underlying t <;> rfl
@[simp] theorem sizeOf_x (t : TypeId) (w : World) : Sem.run prog (sizeOf t) w = Sem.run Tryz.prog (sizeOf t) w := by
 simp only [sizeOf, typeInfo, program, Bind.bind, Sem.bind, Sem.run, info_x]
 cases Tryz.prog.info? t <;> rfl
@[simp] theorem isAgg_x (t : TypeId) (w : World) : Sem.run prog (isAgg t) w = Sem.run Tryz.prog (isAgg t) w := by
 simp only [isAgg, underlying, program, Bind.bind, Sem.bind, Sem.run, underlying_x]
 cases Tryz.prog.underlying t with
 | none => rfl
 | some d => cases d <;> rfl
@[simp] theorem zeroValue_x (t : TypeId) (w : World) : Sem.run prog (zeroValue t) w = Sem.run Tryz.prog (zeroValue t) w := by
 simp only [zeroValue, typeInfo, program, Bind.bind, Sem.bind, Sem.run, info_x]
 cases Tryz.prog.info? t with
 | none => rfl
 | some i => cases h : i.zero <;> simp [h, Sem.bind, Sem.run, pure, unsupported]
@[simp] theorem eqGuardType_x : ∀ (d : Nat) (t : TypeId), prog.eqGuardType d t = Tryz.prog.eqGuardType d t
 | 0, _ => rfl
 | d + 1, t => by
  unfold Program.eqGuardType
  simp only [underlying_x, eqGuardType_x d]
theorem func4 : prog.funcs[4]? = some Tryz.f4 := by kernel_rfl
theorem func5 : prog.funcs[5]? = some Tryz.f5 := by kernel_rfl
theorem func26 : prog.funcs[26]? = some Tryz.f26 := by kernel_rfl
theorem func27 : prog.funcs[27]? = some Tryz.f27 := by kernel_rfl
theorem func28 : prog.funcs[28]? = some Tryz.f28 := by kernel_rfl
theorem func29 : prog.funcs[29]? = some Tryz.f29 := by kernel_rfl
theorem func30 : prog.funcs[30]? = some Tryz.f30 := by kernel_rfl
theorem func31 : prog.funcs[31]? = some Tryz.f31 := by kernel_rfl
theorem func32 : prog.funcs[32]? = some Tryz.f32 := by kernel_rfl
theorem func33 : prog.funcs[33]? = some Tryz.f33 := by kernel_rfl
theorem func34 : prog.funcs[34]? = some Tryz.f34 := by kernel_rfl
theorem func41 : prog.funcs[41]? = some Tryz.f41 := by kernel_rfl
theorem func43 : prog.funcs[43]? = some Tryz.f43 := by kernel_rfl
theorem func68 : prog.funcs[68]? = some f68 := by kernel_rfl
theorem func70 : prog.funcs[70]? = some Tryz.f70 := by kernel_rfl
theorem func79 : prog.funcs[79]? = some Tryz.f79 := by kernel_rfl
theorem func80 : prog.funcs[80]? = some Tryz.f80 := by kernel_rfl
theorem func81 : prog.funcs[81]? = some Tryz.f81 := by kernel_rfl
theorem func82 : prog.funcs[82]? = some Tryz.f82 := by kernel_rfl
theorem func83 : prog.funcs[83]? = some Tryz.f83 := by kernel_rfl
theorem func87 : prog.funcs[87]? = some Tryz.f87 := by kernel_rfl
theorem func89 : prog.funcs[89]? = some Tryz.f89 := by kernel_rfl
theorem func90 : prog.funcs[90]? = some Tryz.f90 := by kernel_rfl
theorem func91 : prog.funcs[91]? = some Tryz.f91 := by kernel_rfl
theorem func94 : prog.funcs[94]? = some Tryz.f94 := by kernel_rfl
theorem func95 : prog.funcs[95]? = some Tryz.f95 := by kernel_rfl
theorem func112 : prog.funcs[112]? = some Tryz.f112 := by kernel_rfl
theorem func113 : prog.funcs[113]? = some Tryz.f113 := by kernel_rfl
theorem func121 : prog.funcs[121]? = some Tryz.f121 := by kernel_rfl
theorem func124 : prog.funcs[124]? = some Tryz.f124 := by kernel_rfl
theorem func125 : prog.funcs[125]? = some Tryz.f125 := by kernel_rfl
theorem func126 : prog.funcs[126]? = some Tryz.f126 := by kernel_rfl
theorem func127 : prog.funcs[127]? = some Tryz.f127 := by kernel_rfl
theorem func128 : prog.funcs[128]? = some Tryz.f128 := by kernel_rfl
theorem func129 : prog.funcs[129]? = some Tryz.f129 := by kernel_rfl
theorem func130 : prog.funcs[130]? = some Tryz.f130 := by kernel_rfl
theorem func131 : prog.funcs[131]? = some Tryz.f131 := by kernel_rfl
theorem func132 : prog.funcs[132]? = some Tryz.f132 := by kernel_rfl
theorem func134 : prog.funcs[134]? = some Tryz.f134 := by kernel_rfl
theorem func135 : prog.funcs[135]? = some Tryz.f135 := by kernel_rfl
theorem func136 : prog.funcs[136]? = some Tryz.f136 := by kernel_rfl
theorem func138 : prog.funcs[138]? = some Tryz.f138 := by kernel_rfl
theorem func143 : prog.funcs[143]? = some Tryz.f143 := by kernel_rfl
theorem func164 : prog.funcs[164]? = some Tryz.f164 := by kernel_rfl
theorem func165 : prog.funcs[165]? = some Tryz.f165 := by kernel_rfl
theorem func167 : prog.funcs[167]? = some Tryz.f167 := by kernel_rfl
theorem func168 : prog.funcs[168]? = some Tryz.f168 := by kernel_rfl
theorem func169 : prog.funcs[169]? = some Tryz.f169 := by kernel_rfl
theorem func170 : prog.funcs[170]? = some Tryz.f170 := by kernel_rfl
theorem func171 : prog.funcs[171]? = some Tryz.f171 := by kernel_rfl
theorem func172 : prog.funcs[172]? = some Tryz.f172 := by kernel_rfl
theorem func173 : prog.funcs[173]? = some Tryz.f173 := by kernel_rfl
theorem func174 : prog.funcs[174]? = some Tryz.f174 := by kernel_rfl
theorem func176 : prog.funcs[176]? = some Tryz.f176 := by kernel_rfl
theorem func177 : prog.funcs[177]? = some Tryz.f177 := by kernel_rfl
theorem func178 : prog.funcs[178]? = some Tryz.f178 := by kernel_rfl
theorem func179 : prog.funcs[179]? = some Tryz.f179 := by kernel_rfl
theorem func188 : prog.funcs[188]? = some Tryz.f188 := by kernel_rfl
theorem func189 : prog.funcs[189]? = some Tryz.f189 := by kernel_rfl
theorem func190 : prog.funcs[190]? = some Tryz.f190 := by kernel_rfl
theorem func191 : prog.funcs[191]? = some Tryz.f191 := by kernel_rfl
theorem func192 : prog.funcs[192]? = some Tryz.f192 := by kernel_rfl
theorem func193 : prog.funcs[193]? = some Tryz.f193 := by kernel_rfl
theorem func194 : prog.funcs[194]? = some Tryz.f194 := by kernel_rfl
theorem func195 : prog.funcs[195]? = some Tryz.f195 := by kernel_rfl
theorem func196 : prog.funcs[196]? = some Tryz.f196 := by kernel_rfl
theorem ntmps68 : f68.ntmps = 13 := rfl
attribute [simp] func4 func5 func26 func27 func28 func29 func30 func31 func32 func33 func34 func41 func43 func68 func70 func79 func80 func81 func82 func83 func87 func89 func90 func91 func94 func95 func112 func113 func121 func124 func125 func126 func127 func128 func129 func130 func131 func132 func134 func135 func136 func138 func143 func164 func165 func167 func168 func169 func170 func171 func172 func173 func174 func176 func177 func178 func179 func188 func189 func190 func191 func192 func193 func194 func195 func196 ntmps68
@[simp] theorem stoodInHeld31 : prog.stoodInHeld 31 = false := by kernel_rfl
theorem underlying3 : prog.underlying 3 = some (Go.TypeDesc.int Go.IntKind.i64) := (underlying_x 3).trans Tryz.underlying3
theorem underlying4 : prog.underlying 4 = some Go.TypeDesc.bool := (underlying_x 4).trans Tryz.underlying4
theorem underlying24 : prog.underlying 24 = some (Go.TypeDesc.slice 45) := (underlying_x 24).trans Tryz.underlying24
theorem underlying34 : prog.underlying 34 = some (Go.TypeDesc.slice 31) := (underlying_x 34).trans Tryz.underlying34
theorem underlying47 : prog.underlying 47 = some (Go.TypeDesc.slice 158) := (underlying_x 47).trans Tryz.underlying47
theorem underlying49 : prog.underlying 49 = some (Go.TypeDesc.struct #[{ name := "Joints", type := 47, offset := 0, embedded := false, tag := "", pkgPath := "", byteOffset := 0 }]) := (underlying_x 49).trans Tryz.underlying49
theorem underlying54 : prog.underlying 54 = some (Go.TypeDesc.slice 3) := (underlying_x 54).trans Tryz.underlying54
theorem underlying61 : prog.underlying 61 = some (Go.TypeDesc.slice 65) := (underlying_x 61).trans Tryz.underlying61
theorem underlying65 : prog.underlying 65 = some (Go.TypeDesc.struct #[{ name := "A", type := 3, offset := 0, embedded := false, tag := "", pkgPath := "", byteOffset := 0 }, { name := "B", type := 3, offset := 1, embedded := false, tag := "", pkgPath := "", byteOffset := 8 }, { name := "C", type := 3, offset := 2, embedded := false, tag := "", pkgPath := "", byteOffset := 16 }, { name := "D", type := 3, offset := 3, embedded := false, tag := "", pkgPath := "", byteOffset := 24 }]) := (underlying_x 65).trans Tryz.underlying65
theorem underlying101 : prog.underlying 101 = some (Go.TypeDesc.map 3 105) := (underlying_x 101).trans Tryz.underlying101
theorem underlying102 : prog.underlying 102 = some (Go.TypeDesc.slice 105) := (underlying_x 102).trans Tryz.underlying102
theorem underlying156 : prog.underlying 156 = some (Go.TypeDesc.struct #[{ name := "X", type := 3, offset := 0, embedded := false, tag := "", pkgPath := "", byteOffset := 0 }, { name := "Y", type := 3, offset := 1, embedded := false, tag := "", pkgPath := "", byteOffset := 8 }]) := (underlying_x 156).trans Tryz.underlying156
theorem underlying158 : prog.underlying 158 = some (Go.TypeDesc.struct #[{ name := "Inner", type := 156, offset := 0, embedded := false, tag := "", pkgPath := "", byteOffset := 0 }, { name := "Outer", type := 156, offset := 2, embedded := false, tag := "", pkgPath := "", byteOffset := 16 }]) := (underlying_x 158).trans Tryz.underlying158
theorem call_x (k : Nat) (args : Array Value) (w : World) {fn : Func} (hf : prog.funcs[k]? = some fn) (hn : (fn.name == "runtime.NumGoroutine") = false := by kernel_rfl) (hb : fn.body.isNone = false := by kernel_rfl) : Sem.run prog (callFunc k args) w = .ok (.enter k args) w := by
 simp only [callFunc, program, Bind.bind, Sem.bind, Sem.run, hf, hn, hb, Bool.false_eq_true, if_false]
 rfl
@[simp] theorem call4 (args w) : Sem.run prog (callFunc 4 args) w = .ok (.enter 4 args) w := call_x 4 args w func4
@[simp] theorem call5 (args w) : Sem.run prog (callFunc 5 args) w = .ok (.enter 5 args) w := call_x 5 args w func5
@[simp] theorem call26 (args w) : Sem.run prog (callFunc 26 args) w = .ok (.enter 26 args) w := call_x 26 args w func26
@[simp] theorem call27 (args w) : Sem.run prog (callFunc 27 args) w = .ok (.enter 27 args) w := call_x 27 args w func27
@[simp] theorem call28 (args w) : Sem.run prog (callFunc 28 args) w = .ok (.enter 28 args) w := call_x 28 args w func28
@[simp] theorem call29 (args w) : Sem.run prog (callFunc 29 args) w = .ok (.enter 29 args) w := call_x 29 args w func29
@[simp] theorem call30 (args w) : Sem.run prog (callFunc 30 args) w = .ok (.enter 30 args) w := call_x 30 args w func30
@[simp] theorem call31 (args w) : Sem.run prog (callFunc 31 args) w = .ok (.enter 31 args) w := call_x 31 args w func31
@[simp] theorem call32 (args w) : Sem.run prog (callFunc 32 args) w = .ok (.enter 32 args) w := call_x 32 args w func32
@[simp] theorem call33 (args w) : Sem.run prog (callFunc 33 args) w = .ok (.enter 33 args) w := call_x 33 args w func33
@[simp] theorem call34 (args w) : Sem.run prog (callFunc 34 args) w = .ok (.enter 34 args) w := call_x 34 args w func34
@[simp] theorem call41 (args w) : Sem.run prog (callFunc 41 args) w = .ok (.enter 41 args) w := call_x 41 args w func41
@[simp] theorem call43 (args w) : Sem.run prog (callFunc 43 args) w = .ok (.enter 43 args) w := call_x 43 args w func43
@[simp] theorem call68 (args w) : Sem.run prog (callFunc 68 args) w = .ok (.enter 68 args) w := call_x 68 args w func68
@[simp] theorem call70 (args w) : Sem.run prog (callFunc 70 args) w = .ok (.enter 70 args) w := call_x 70 args w func70
@[simp] theorem call79 (args w) : Sem.run prog (callFunc 79 args) w = .ok (.enter 79 args) w := call_x 79 args w func79
@[simp] theorem call80 (args w) : Sem.run prog (callFunc 80 args) w = .ok (.enter 80 args) w := call_x 80 args w func80
@[simp] theorem call81 (args w) : Sem.run prog (callFunc 81 args) w = .ok (.enter 81 args) w := call_x 81 args w func81
@[simp] theorem call82 (args w) : Sem.run prog (callFunc 82 args) w = .ok (.enter 82 args) w := call_x 82 args w func82
@[simp] theorem call83 (args w) : Sem.run prog (callFunc 83 args) w = .ok (.enter 83 args) w := call_x 83 args w func83
@[simp] theorem call87 (args w) : Sem.run prog (callFunc 87 args) w = .ok (.enter 87 args) w := call_x 87 args w func87
@[simp] theorem call89 (args w) : Sem.run prog (callFunc 89 args) w = .ok (.enter 89 args) w := call_x 89 args w func89
@[simp] theorem call90 (args w) : Sem.run prog (callFunc 90 args) w = .ok (.enter 90 args) w := call_x 90 args w func90
@[simp] theorem call91 (args w) : Sem.run prog (callFunc 91 args) w = .ok (.enter 91 args) w := call_x 91 args w func91
@[simp] theorem call94 (args w) : Sem.run prog (callFunc 94 args) w = .ok (.enter 94 args) w := call_x 94 args w func94
@[simp] theorem call95 (args w) : Sem.run prog (callFunc 95 args) w = .ok (.enter 95 args) w := call_x 95 args w func95
@[simp] theorem call112 (args w) : Sem.run prog (callFunc 112 args) w = .ok (.enter 112 args) w := call_x 112 args w func112
@[simp] theorem call113 (args w) : Sem.run prog (callFunc 113 args) w = .ok (.enter 113 args) w := call_x 113 args w func113
@[simp] theorem call121 (args w) : Sem.run prog (callFunc 121 args) w = .ok (.enter 121 args) w := call_x 121 args w func121
@[simp] theorem call124 (args w) : Sem.run prog (callFunc 124 args) w = .ok (.enter 124 args) w := call_x 124 args w func124
@[simp] theorem call125 (args w) : Sem.run prog (callFunc 125 args) w = .ok (.enter 125 args) w := call_x 125 args w func125
@[simp] theorem call126 (args w) : Sem.run prog (callFunc 126 args) w = .ok (.enter 126 args) w := call_x 126 args w func126
@[simp] theorem call127 (args w) : Sem.run prog (callFunc 127 args) w = .ok (.enter 127 args) w := call_x 127 args w func127
@[simp] theorem call128 (args w) : Sem.run prog (callFunc 128 args) w = .ok (.enter 128 args) w := call_x 128 args w func128
@[simp] theorem call129 (args w) : Sem.run prog (callFunc 129 args) w = .ok (.enter 129 args) w := call_x 129 args w func129
@[simp] theorem call130 (args w) : Sem.run prog (callFunc 130 args) w = .ok (.enter 130 args) w := call_x 130 args w func130
@[simp] theorem call131 (args w) : Sem.run prog (callFunc 131 args) w = .ok (.enter 131 args) w := call_x 131 args w func131
@[simp] theorem call132 (args w) : Sem.run prog (callFunc 132 args) w = .ok (.enter 132 args) w := call_x 132 args w func132
@[simp] theorem call134 (args w) : Sem.run prog (callFunc 134 args) w = .ok (.enter 134 args) w := call_x 134 args w func134
@[simp] theorem call135 (args w) : Sem.run prog (callFunc 135 args) w = .ok (.enter 135 args) w := call_x 135 args w func135
@[simp] theorem call136 (args w) : Sem.run prog (callFunc 136 args) w = .ok (.enter 136 args) w := call_x 136 args w func136
@[simp] theorem call138 (args w) : Sem.run prog (callFunc 138 args) w = .ok (.enter 138 args) w := call_x 138 args w func138
@[simp] theorem call143 (args w) : Sem.run prog (callFunc 143 args) w = .ok (.enter 143 args) w := call_x 143 args w func143
@[simp] theorem call164 (args w) : Sem.run prog (callFunc 164 args) w = .ok (.enter 164 args) w := call_x 164 args w func164
@[simp] theorem call165 (args w) : Sem.run prog (callFunc 165 args) w = .ok (.enter 165 args) w := call_x 165 args w func165
@[simp] theorem call167 (args w) : Sem.run prog (callFunc 167 args) w = .ok (.enter 167 args) w := call_x 167 args w func167
@[simp] theorem call168 (args w) : Sem.run prog (callFunc 168 args) w = .ok (.enter 168 args) w := call_x 168 args w func168
@[simp] theorem call169 (args w) : Sem.run prog (callFunc 169 args) w = .ok (.enter 169 args) w := call_x 169 args w func169
@[simp] theorem call170 (args w) : Sem.run prog (callFunc 170 args) w = .ok (.enter 170 args) w := call_x 170 args w func170
@[simp] theorem call171 (args w) : Sem.run prog (callFunc 171 args) w = .ok (.enter 171 args) w := call_x 171 args w func171
@[simp] theorem call172 (args w) : Sem.run prog (callFunc 172 args) w = .ok (.enter 172 args) w := call_x 172 args w func172
@[simp] theorem call173 (args w) : Sem.run prog (callFunc 173 args) w = .ok (.enter 173 args) w := call_x 173 args w func173
@[simp] theorem call174 (args w) : Sem.run prog (callFunc 174 args) w = .ok (.enter 174 args) w := call_x 174 args w func174
@[simp] theorem call176 (args w) : Sem.run prog (callFunc 176 args) w = .ok (.enter 176 args) w := call_x 176 args w func176
@[simp] theorem call177 (args w) : Sem.run prog (callFunc 177 args) w = .ok (.enter 177 args) w := call_x 177 args w func177
@[simp] theorem call178 (args w) : Sem.run prog (callFunc 178 args) w = .ok (.enter 178 args) w := call_x 178 args w func178
@[simp] theorem call179 (args w) : Sem.run prog (callFunc 179 args) w = .ok (.enter 179 args) w := call_x 179 args w func179
@[simp] theorem call188 (args w) : Sem.run prog (callFunc 188 args) w = .ok (.enter 188 args) w := call_x 188 args w func188
@[simp] theorem call189 (args w) : Sem.run prog (callFunc 189 args) w = .ok (.enter 189 args) w := call_x 189 args w func189
@[simp] theorem call190 (args w) : Sem.run prog (callFunc 190 args) w = .ok (.enter 190 args) w := call_x 190 args w func190
@[simp] theorem call191 (args w) : Sem.run prog (callFunc 191 args) w = .ok (.enter 191 args) w := call_x 191 args w func191
@[simp] theorem call192 (args w) : Sem.run prog (callFunc 192 args) w = .ok (.enter 192 args) w := call_x 192 args w func192
@[simp] theorem call193 (args w) : Sem.run prog (callFunc 193 args) w = .ok (.enter 193 args) w := call_x 193 args w func193
@[simp] theorem call194 (args w) : Sem.run prog (callFunc 194 args) w = .ok (.enter 194 args) w := call_x 194 args w func194
@[simp] theorem call195 (args w) : Sem.run prog (callFunc 195 args) w = .ok (.enter 195 args) w := call_x 195 args w func195
@[simp] theorem call196 (args w) : Sem.run prog (callFunc 196 args) w = .ok (.enter 196 args) w := call_x 196 args w func196
end Go.Proofs.Tryzx
end
section
namespace Go.Proofs.Tryzx
def lawL : List Nat := [3, 4, 5, 6, 7, 8, 9, 10, 11, 12, 13, 14, 15, 16, 17, 18, 19, 20, 21, 22, 23, 24, 25, 26, 27, 28, 29, 30, 31, 32, 33, 34, 35, 36, 37, 38, 39, 40, 41, 42, 43, 44, 45, 46, 47, 48, 49, 50, 51, 52, 53, 54, 55, 56, 57, 58, 59, 60, 61, 62, 63, 64, 65, 66, 67, 69, 70, 71, 72, 73, 74, 75, 76, 77, 78, 79, 80, 81, 82, 83, 84, 85, 86, 87, 88, 89, 90, 91, 92, 93, 94, 95, 96, 97, 98, 99, 100, 101, 102, 103, 104, 105, 106, 107, 108, 109, 110, 111, 112, 113, 120, 121, 122, 123, 124, 125, 126, 127, 128, 129, 130, 131, 132, 133, 134, 135, 136, 137, 138, 139, 140, 141, 142, 143, 164, 165, 166, 167, 168, 169, 170, 171, 172, 173, 174, 175, 176, 177, 178, 179, 188, 189, 190, 191, 192, 193, 194, 195, 196]
end Go.Proofs.Tryzx
end
namespace Go.Proofs.YtbpnbhemdbgmjaaGreat
namespace Rn
open Go.Conc
def lawF : Nat → Bool := fun k => Tryzx.lawL.contains k
def lawD : Nat → Bool := fun i => i != specAt 68
theorem law_all : Tryzx.lawL.all (fun f => (f != 68) && match Tryz.prog.funcs[f]? with | some fn => (fn.name != "runtime.NumGoroutine") && (match fn.body with | some c => okC Tryz.prog.toTables lawF lawD c | none => false) | none => false) = true := by decide +kernel
theorem law_one {f : Nat} (h : lawF f = true) : f ≠ 68 ∧ ∃ fn c, Tryz.prog.funcs[f]? = some fn ∧ (fn.name == "runtime.NumGoroutine") = false ∧ fn.body = some c ∧ okC Tryz.prog.toTables lawF lawD c = true := by
 have hm : f ∈ Tryzx.lawL := by simpa [lawF] using h
 have := List.all_eq_true.1 law_all f hm
 rw [Bool.and_eq_true] at this
 obtain ⟨hne, this⟩ := this
 refine ⟨by simpa using hne, ?_⟩
 cases hf : Tryz.prog.funcs[f]? with
 | none => rw [hf] at this; cases this
 | some fn =>
  rw [hf] at this
  dsimp only at this
  cases hb : fn.body with
  | none => rw [hb] at this; simp at this
  | some c =>
   rw [hb] at this
   simp only [Bool.and_eq_true] at this
   exact ⟨fn, c, rfl, by simpa using this.1, hb, this.2⟩
theorem xset : Tryzx.prog.funcs = Tryz.prog.funcs.setIfInBounds 68 Tryzx.f68 := by kernel_rfl
theorem xfuncs (f : Nat) (hf : f ≠ 68) : Tryzx.prog.funcs[f]? = Tryz.prog.funcs[f]? := by
 rw [xset, Array.getElem?_setIfInBounds_ne (Ne.symm hf)]
theorem lawD_spec {f : Nat} (h : lawD (specAt f) = false) : f = 68 := by
 simp only [lawD, specAt, bne_eq_false_iff_eq] at h
 omega
theorem small_res {fn : Func} (h : (fn.results.toList.all fun x => match x with | .tmp t => decide (t < 1000000) | .cell a _ => decide (a < 1000000)) = true) : resD fn lawD = true := by
 unfold resD
 rw [List.all_eq_true] at h ⊢
 intro x hx
 have := h x hx
 have key : ∀ t, t < 1000000 → lawD t = true := fun t ht => by simp only [lawD, specAt, bne_iff_ne, ne_eq]; omega
 cases x with
 | tmp t => exact key t (by simpa using this)
 | cell a _ => exact key a (by simpa using this)
theorem law_res : (Tryzx.prog.funcs.toList.all fun fn => fn.results.toList.all fun x => match x with | .tmp t => decide (t < 1000000) | .cell a _ => decide (a < 1000000)) = true := by decide +kernel
theorem law_resD {f : Nat} {fn : Func} (h : Tryzx.prog.funcs[f]? = some fn) : resD fn lawD = true := by
 refine small_res (List.all_eq_true.1 law_res fn ?_)
 obtain ⟨hi, rfl⟩ := Array.getElem?_eq_some_iff.1 h
 simp
structure Win where
 live : Bool
 blk : Nat
 off : Nat
 cells : Array Value
noncomputable def gctx (noT : TypeId) (ws : List Win) : Ctx where
 tb := Tryz.prog.toTables
 fx := Tryzx.prog.funcs
 fs := Tryz.prog.funcs
 F := lawF
 RO := fun a => Tryz.prog.globals.size ≤ a ∧ a < Tryz.prog.globals.size + ws.length
 sh := fun a => if Tryz.prog.globals.size ≤ a ∧ a < Tryz.prog.globals.size + ws.length then ((ws[a - Tryz.prog.globals.size]?).map (·.off)).getD 0 else 0
 noT := noT
 D := fun _ => lawD
noncomputable def sctx (noT : TypeId) (ws : List Win) : Ctx where
 tb := Tryz.prog.toTables
 fx := Tryzx.prog.funcs
 fs := Tryzx.prog.funcs
 F := lawF
 RO := fun a => Tryz.prog.globals.size ≤ a ∧ a < Tryz.prog.globals.size + ws.length
 sh := fun _ => 0
 noT := noT
 D := fun _ => lawD
section
variable {noT : TypeId} {ws : List Win}
theorem gok : CtxOk (gctx noT ws) := by
 refine ⟨fun f h => ?_, fun f h => ?_, fun f fn h => law_resD h, fun k f h => ?_, fun k f h => ?_⟩
 ·obtain ⟨hne, fn, c, h1, h2, h3, _⟩ := law_one h
  exact ⟨fn, (xfuncs f hne).trans h1, h2, by rw [h3]; rfl⟩
 ·obtain ⟨hne, fn, c, h1, h2, h3, _⟩ := law_one h
  exact ⟨fn, h1, h2, by rw [h3]; rfl⟩
 ·obtain rfl := lawD_spec h
  exact ⟨_, Tryzx.func68, by decide, rfl⟩
 ·obtain rfl := lawD_spec h
  exact ⟨_, Tryz.func68, by decide +kernel, by rw [pbody_body]; rfl⟩
theorem gfine {f : Nat} (h : lawF f = true) : Fine (gctx noT ws) f := by
 obtain ⟨hne, fn, c, h1, h2, h3, h4⟩ := law_one h
 exact ⟨(xfuncs f hne).symm, fn, c, (xfuncs f hne).trans h1, h3, h4⟩
theorem sok : CtxOk (sctx noT ws) := by
 have one : ∀ f, lawF f = true → ∃ fn, Tryzx.prog.funcs[f]? = some fn ∧ (fn.name == "runtime.NumGoroutine") = false ∧ fn.body.isNone = false := fun f h => by
  obtain ⟨hne, fn, c, h1, h2, h3, _⟩ := law_one h
  exact ⟨fn, (xfuncs f hne).trans h1, h2, by rw [h3]; rfl⟩
 have two : ∀ k f, (sctx noT ws).D k (specAt f) = false → ∃ fn, Tryzx.prog.funcs[f]? = some fn ∧ (fn.name == "runtime.NumGoroutine") = false ∧ fn.body.isNone = false := fun k f h => by
  obtain rfl := lawD_spec h
  exact ⟨_, Tryzx.func68, by decide, rfl⟩
 exact ⟨one, one, fun f fn h => law_resD h, two, two⟩
theorem bodyX_ok : okC Tryz.prog.toTables lawF lawD Tryzx.bodyX = true := by decide +kernel
theorem sfine : ∀ f n, Entered (sctx noT ws) f n → Fine (sctx noT ws) f := by
 rintro f n (h | ⟨⟨k, h⟩, _⟩)
 ·obtain ⟨hne, fn, c, h1, h2, h3, h4⟩ := law_one h
  exact ⟨rfl, fn, c, (xfuncs f hne).trans h1, h3, h4⟩
 ·obtain rfl := lawD_spec h
  exact ⟨rfl, _, _, Tryzx.func68, rfl, bodyX_ok⟩
theorem cfine : Fine (sctx noT ws) 68 := ⟨rfl, _, _, Tryzx.func68, rfl, bodyX_ok⟩
def dg (r : Ren) : Ren := fun a a' => a = a' ∧ ∃ b, r a b
variable {r : Ren} {w v : World}
theorem ar_self {a b : Addr} (h : AR (gctx noT ws) r a b) : AR (sctx noT ws) (dg r) a a := ⟨⟨rfl, _, h.1⟩, rfl, rfl⟩
theorem vr_self {x y : Value} (h : VR (gctx noT ws) r x y) : VR (sctx noT ws) (dg r) x x := by
 induction h with
 | bool b => exact .bool b
 | int k n => exact .int k n
 | ptr0 => exact .ptr0
 | ptr a => exact .ptr (ar_self a)
 | sl0 n c => exact .sl0 n c
 | sl n c a => exact .sl n c (ar_self a)
 | map0 => exact .map0
 | map a => exact .map ⟨rfl, _, a⟩
 | @func f xs ys xs' ys' hf e _ e' _ ih ih' =>
  refine .func hf rfl (fun i x y hx hy => ?_) rfl (fun i x y hx hy => ?_)
  ·rw [hx] at hy; cases hy
   have hi := (Array.getElem?_eq_some_iff.1 hx).1
   exact ih i x _ hx (Array.getElem?_eq_getElem (e ▸ hi))
  ·rw [hx] at hy; cases hy
   have hi := (Array.getElem?_eq_some_iff.1 hx).1
   exact ih' i x _ hx (Array.getElem?_eq_getElem (e' ▸ hi))
 | nilFunc => exact .nilFunc
 | @agg xs ys e _ ih =>
  refine .agg rfl fun i x y hx hy => ?_
  rw [hx] at hy; cases hy
  have hi := (Array.getElem?_eq_some_iff.1 hx).1
  exact ih i x _ hx (Array.getElem?_eq_getElem (e ▸ hi))
 | @tuple xs ys e _ ih =>
  refine .tuple rfl fun i x y hx hy => ?_
  rw [hx] at hy; cases hy
  have hi := (Array.getElem?_eq_some_iff.1 hx).1
  exact ih i x _ hx (Array.getElem?_eq_getElem (e ▸ hi))
theorem vall_self {xs ys : Array Value} (h : VAll (gctx noT ws) r xs ys) : VAll (sctx noT ws) (dg r) xs xs := by
 refine ⟨rfl, fun i x y hx hy => ?_⟩
 rw [hx] at hy; cases hy
 obtain ⟨y, _, hy⟩ := h.get? hx
 exact vr_self hy
theorem or_self {x y : Option Obj} (h : OR (gctx noT ws) r x y) : OR (sctx noT ws) (dg r) x x := by
 cases h with
 | cells va => exact .cells (vall_self va)
 | @map es es' k m =>
  refine .map ⟨rfl, fun i e e' he he' => ?_⟩
  rw [he] at he'; cases he'
  have hi := (Array.getElem?_eq_some_iff.1 he).1
  have := m.get i e _ he (Array.getElem?_eq_getElem (m.size ▸ hi))
  exact ⟨vr_self this.key, vr_self this.val, rfl⟩
 | number l a => exact .number l (ar_self a)
theorem wr_self (h : WR (gctx noT ws) r w v) : WR (sctx noT ws) (dg r) w w where
 lt := by rintro a _ ⟨rfl, b, hb⟩; exact ⟨(h.lt _ _ hb).1, (h.lt _ _ hb).1⟩
 fn := by rintro a b b' ⟨rfl, _⟩ ⟨rfl, _⟩; rfl
 inj := by rintro a a' b ⟨rfl, _⟩ ⟨rfl, _⟩; exact .inl rfl
 obj := by rintro a _ ⟨rfl, b, hb⟩ hr; exact or_self (h.obj _ _ hb hr)
 win := by
  rintro a _ ⟨rfl, b, hb⟩ hr
  obtain ⟨c, hi, c', t', z', h1, h2, h3, h4⟩ := h.win _ _ hb hr
  refine ⟨c, hi, c, _, _, h1, h2, h1, fun i u hu => ⟨u, by simpa [sctx] using hu, ?_⟩⟩
  obtain ⟨u', _, hv⟩ := h4 i u hu
  exact vr_self hv
 winG := by rintro a _ ⟨rfl, b, hb⟩ hr; exact h.winG _ _ hb hr
 glob := by rintro a _ ⟨rfl, b, hb⟩ _ _; rfl
 big := ⟨h.big.1, h.big.1⟩
 shz := fun a _ => rfl
 roLt := h.roLt
 noInfo := h.noInfo
end
end Rn
namespace X
open Go.RowKit
theorem l01In_any (x a b : Int) (w : World) : Calls Tryzx.prog 126 #[.int .i64 x, .int .i64 a, .int .i64 b] w fun e w' => e = .returned (.bool (inB x a b)) ∧ w = w' := by
 by_cases c1 : a ≤ x
 ·by_cases c2 : x ≤ b
  ·have H := Lib.hid (inB_t ⟨c1, c2⟩)
   go_enter Tryzx.func126, Tryz.ntmps126
   go_wp2
   go_ret
   exact ⟨ret_bool H.out.symm, rfl⟩
  ·have H := Lib.hid (inB_f (x := x) (a := a) (b := b) (by omega))
   go_enter Tryzx.func126, Tryz.ntmps126
   go_wp2
   go_ret
   exact ⟨ret_bool H.out.symm, rfl⟩
 ·have H := Lib.hid (inB_f (x := x) (a := a) (b := b) (by omega))
  go_enter Tryzx.func126, Tryz.ntmps126
  go_wp2
  go_ret
  exact ⟨ret_bool H.out.symm, rfl⟩
theorem within_any (x a b : Int) (w : World) : Calls Tryzx.prog 112 #[.int .i64 x, .int .i64 a, .int .i64 b] w fun e w' => e = .returned (.bool (inB x a b)) ∧ w = w' := by
 by_cases c1 : a ≤ x
 ·by_cases c2 : x ≤ b
  ·have H := Lib.hid (inB_t ⟨c1, c2⟩)
   go_enter Tryzx.func112, Tryz.ntmps112
   go_wp2
   go_ret
   exact ⟨ret_bool H.out.symm, rfl⟩
  ·have H := Lib.hid (inB_f (x := x) (a := a) (b := b) (by omega))
   go_enter Tryzx.func112, Tryz.ntmps112
   go_wp2
   go_ret
   exact ⟨ret_bool H.out.symm, rfl⟩
 ·have H := Lib.hid (inB_f (x := x) (a := a) (b := b) (by omega))
  go_enter Tryzx.func112, Tryz.ntmps112
  go_wp2
  go_ret
  exact ⟨ret_bool H.out.symm, rfl⟩
end X
namespace X
open Go.RowKit
theorem isPlace_any (x : Int) (w : World) : Calls Tryzx.prog 164 #[.int .i64 x] w fun e w' => e = .returned (.bool (inB x (-60) 60)) ∧ w = w' := by
 go_enter Tryzx.func164, Tryz.ntmps164
 go_wp2_with (go_at_call 112; refine (within_any _ _ _ _).mono ?_; rintro e w' ⟨rfl, rfl⟩)
 go_ret
 exact ⟨rfl, rfl⟩
theorem ok_any (x y : Int) (w : World) : Calls Tryzx.prog 190 #[.agg #[.int .i64 x, .int .i64 y]] w fun e w' => e = .returned (.bool (ptB x y)) ∧ Below w.heap.size w w' := by
 cases h1 : inB x (-60) 60
 ·have HF := Lib.hid (show ptB x y = false by simp [ptB, h1])
  go_enter Tryzx.func190, Tryz.ntmps190
  go_wp2_with (go_at_call 164; refine (isPlace_any _ _).mono ?_; rintro e w' ⟨rfl, rfl⟩)
  go_ret
  exact ⟨ret_bool HF.out.symm, (Below.refl _ _).alloc (Nat.le_refl _) _⟩
 ·have HF := Lib.hid (show ptB x y = inB y (-60) 60 by simp [ptB, h1])
  go_enter Tryzx.func190, Tryz.ntmps190
  go_wp2_with (go_at_call 164; refine (isPlace_any _ _).mono ?_; rintro e w' ⟨rfl, rfl⟩)
  go_ret
  exact ⟨ret_bool HF.out.symm, (Below.refl _ _).alloc (Nat.le_refl _) _⟩
theorem pointOk_any (x y : Int) (w : World) : Calls Tryzx.prog 194 #[.agg #[.int .i64 x, .int .i64 y]] w fun e w' => e = .returned (.bool (ptB x y)) ∧ Below w.heap.size w w' := by
 cases h1 : inB x (-60) 60
 ·have HF := Lib.hid (show ptB x y = false by simp [ptB, h1])
  go_enter Tryzx.func194, Tryz.ntmps194
  go_wp2_with (go_at_call 126; refine (l01In_any _ _ _ _).mono ?_; rintro e w' ⟨rfl, rfl⟩)
  go_ret
  exact ⟨ret_bool HF.out.symm, (Below.refl _ _).alloc (Nat.le_refl _) _⟩
 ·have HF := Lib.hid (show ptB x y = inB y (-60) 60 by simp [ptB, h1])
  go_enter Tryzx.func194, Tryz.ntmps194
  go_wp2_with (go_at_call 126; refine (l01In_any _ _ _ _).mono ?_; rintro e w' ⟨rfl, rfl⟩)
  go_ret
  exact ⟨ret_bool HF.out.symm, (Below.refl _ _).alloc (Nat.le_refl _) _⟩
set_option maxHeartbeats 800000 in
theorem side_any (ax ay bx b_y cx cy : Int) (w : World) (ha : ptB ax ay = true) (hb : ptB bx b_y = true) (hc : ptB cx cy = true) :
  Calls Tryzx.prog 191 #[.agg #[.int .i64 cx, .int .i64 cy], .agg #[.int .i64 ax, .int .i64 ay], .agg #[.int .i64 bx, .int .i64 b_y]] w fun e w' => e = .returned (.int .i64 (sideI ax ay bx b_y cx cy)) ∧ Below w.heap.size w w' := by
 have hbd := sideI_bd ha hb hc
 have HS : Hid (sideI ax ay bx b_y cx cy = (bx - ax) * (cy - ay) - (b_y - ay) * (cx - ax)) := rfl
 rw [HS.out] at hbd
 rw [ptB_iff] at ha hb hc
 have h1 := mul120 (a := bx - ax) (b := cy - ay) (by omega) (by omega)
 have h2 := mul120 (a := b_y - ay) (b := cx - ax) (by omega) (by omega)
 go_enter Tryzx.func191, Tryz.ntmps191
 go_wp2
 go_ret
 exact ⟨rfl, (((Below.refl _ _).alloc (Nat.le_refl _) _).alloc (by simp) _).alloc (by simp; omega) _⟩
theorem l02Side_any (ax ay bx b_y cx cy : Int) (w : World) (ha : ptB ax ay = true) (hb : ptB bx b_y = true) (hc : ptB cx cy = true) :
  Calls Tryzx.prog 138 #[.agg #[.int .i64 ax, .int .i64 ay], .agg #[.int .i64 bx, .int .i64 b_y], .agg #[.int .i64 cx, .int .i64 cy]] w fun e w' => e = .returned (.int .i64 (sideI ax ay bx b_y cx cy)) ∧ Below w.heap.size w w' := by
 have hbd := sideI_bd ha hb hc
 have HS : Hid (sideI ax ay bx b_y cx cy = (bx - ax) * (cy - ay) - (b_y - ay) * (cx - ax)) := rfl
 rw [HS.out] at hbd
 rw [ptB_iff] at ha hb hc
 have h1 := mul120 (a := bx - ax) (b := cy - ay) (by omega) (by omega)
 have h2 := mul120 (a := b_y - ay) (b := cx - ax) (by omega) (by omega)
 go_enter Tryzx.func138, Tryz.ntmps138
 go_wp2
 go_ret
 exact ⟨rfl, (((Below.refl _ _).alloc (Nat.le_refl _) _).alloc (by simp) _).alloc (by simp; omega) _⟩
end X
end Go.Proofs.YtbpnbhemdbgmjaaGreat
