/-
  Texts that the law stands on, part 15.
-/
import Derived.Test.YtjcgklifabcfkaaGreatN1
import Derived.Test.YtjcgklifabcfkaaGreatProg
import Derived.KernelRfl
set_option maxRecDepth 100000
set_option linter.unusedVariables false
set_option linter.unusedSimpArgs false
section
namespace Go.Proofs.Tryzx
def rd3 : Code := (.region 7 #[{ dst := some 9, op := .call { callee := .value (.func 68), args := #[.tmp 0], argTypes := #[103] }, type := 71, pos := "", after := #[], guard := none }] false)
def rd4 : Code := (.region 8 #[{ dst := some 10, op := .call { callee := .builtin .append, args := #[.const (.slice none 0 0), .tmp 9], argTypes := #[71, 71] }, type := 71, pos := "", after := #[], guard := none }] false)
def bodyX : Code := .seq (.seq (.region 0 #[{ dst := some 1, op := .move (.const (.int .i64 0)), type := 3, pos := "", after := #[], guard := none }, { dst := some 2, op := .call { callee := .builtin .len, args := #[.tmp 0], argTypes := #[103] }, type := 3, pos := "", after := #[], guard := none }, { dst := some 3, op := .binOp .lss 3 (.tmp 2) (.const (.int .i64 1048577)) 3, type := 4, pos := "", after := #[{ on := 1, ground := .data }], guard := none }] false) (.seq (.cond (.tmp 3) .skip (.exit 9)) (.seq (.block 0 (.loop (.seq (.region 1 #[{ dst := some 4, op := .binOp .lss 3 (.tmp 1) (.tmp 2) 3, type := 4, pos := "", after := #[], guard := none }] false) (.seq (.cond (.tmp 4) .skip (.exit 0)) (.seq (.region 2 #[{ dst := some 5, op := .indexAddr 103 (.tmp 0) (.tmp 1), type := 0, pos := "", after := #[], guard := none }, { dst := some 6, op := .fieldAddr 133 (.tmp 5) 0, type := 0, pos := "", after := #[{ on := 0, ground := .data }], guard := none }, { dst := some 7, op := .load 3 (.tmp 6), type := 3, pos := "", after := #[{ on := 1, ground := .data }], guard := none }, { dst := some 8, op := .binOp .mul 3 (.tmp 7) (.const (.int .i64 1)) 3, type := 3, pos := "", after := #[{ on := 2, ground := .data }], guard := none }] false) (.seq (.region 3 #[{ dst := some 5, op := .indexAddr 103 (.tmp 0) (.tmp 1), type := 0, pos := "", after := #[], guard := none }, { dst := some 6, op := .fieldAddr 133 (.tmp 5) 1, type := 0, pos := "", after := #[{ on := 0, ground := .data }], guard := none }, { dst := some 7, op := .load 3 (.tmp 6), type := 3, pos := "", after := #[{ on := 1, ground := .data }], guard := none }, { dst := some 8, op := .binOp .mul 3 (.tmp 7) (.const (.int .i64 1)) 3, type := 3, pos := "", after := #[{ on := 2, ground := .data }], guard := none }] false) (.seq (.region 4 #[{ dst := some 5, op := .indexAddr 103 (.tmp 0) (.tmp 1), type := 0, pos := "", after := #[], guard := none }, { dst := some 6, op := .fieldAddr 133 (.tmp 5) 2, type := 0, pos := "", after := #[{ on := 0, ground := .data }], guard := none }, { dst := some 7, op := .load 3 (.tmp 6), type := 3, pos := "", after := #[{ on := 1, ground := .data }], guard := none }, { dst := some 8, op := .binOp .mul 3 (.tmp 7) (.const (.int .i64 1)) 3, type := 3, pos := "", after := #[{ on := 2, ground := .data }], guard := none }] false) (.seq (.region 5 #[{ dst := some 5, op := .indexAddr 103 (.tmp 0) (.tmp 1), type := 0, pos := "", after := #[], guard := none }, { dst := some 6, op := .fieldAddr 133 (.tmp 5) 3, type := 0, pos := "", after := #[{ on := 0, ground := .data }], guard := none }, { dst := some 7, op := .load 3 (.tmp 6), type := 3, pos := "", after := #[{ on := 1, ground := .data }], guard := none }, { dst := some 8, op := .binOp .mul 3 (.tmp 7) (.const (.int .i64 1)) 3, type := 3, pos := "", after := #[{ on := 2, ground := .data }], guard := none }] false) (.region 6 #[{ dst := some 1, op := .binOp .add 3 (.tmp 1) (.const (.int .i64 1)) 3, type := 3, pos := "", after := #[], guard := none }] false))))))))) (.seq (.region 9 #[{ dst := some 11, op := .binOp .eql 3 (.tmp 2) (.const (.int .i64 0)) 3, type := 4, pos := "", after := #[], guard := none }] false) (.cond (.tmp 11) (.seq (.region 10 #[{ dst := some 12, op := .binOp .eql 103 (.tmp 0) (.const (.slice none 0 0)) 103, type := 4, pos := "", after := #[], guard := none }] false) (.cond (.tmp 12) .skip (.exit 9))) .skip))))) (.seq (.region 7 #[{ dst := some 9, op := .call { callee := .value (.func 68), args := #[.tmp 0], argTypes := #[103] }, type := 71, pos := "", after := #[], guard := none }] false) (.seq (.region 8 #[{ dst := some 10, op := .call { callee := .builtin .append, args := #[.const (.slice none 0 0), .tmp 9], argTypes := #[71, 71] }, type := 71, pos := "", after := #[], guard := none }] false) .ret))
noncomputable def f87 : Func := { name := Tryz.f87.name, origin := "", params := #[103], resultTypes := #[71], nfree := 0, ntmps := 13, results := #[.tmp 10], body := some bodyX, norace := false, tmpNames := #[] }
noncomputable def funcs:Array Func :=
(([Tryz.f0,Tryz.f1,Tryz.f2,Tryz.f3,Tryz.f4,Tryz.f5,
      Tryz.f6,Tryz.f7,Tryz.f8,Tryz.f9,Tryz.f10,
      Tryz.f11,Tryz.f12,Tryz.f13,Tryz.f14,Tryz.f15,
      Tryz.f16,Tryz.f17,Tryz.f18,Tryz.f19,Tryz.f20,
      Tryz.f21,Tryz.f22,Tryz.f23,Tryz.f24,Tryz.f25,
      Tryz.f26,Tryz.f27,Tryz.f28,Tryz.f29,Tryz.f30,
      Tryz.f31,Tryz.f32,Tryz.f33,Tryz.f34,Tryz.f35,
      Tryz.f36,Tryz.f37,Tryz.f38,Tryz.f39,Tryz.f40,
      Tryz.f41,Tryz.f42,Tryz.f43,Tryz.f44,Tryz.f45,
      Tryz.f46].append
    [Tryz.f47,Tryz.f48,Tryz.f49,Tryz.f50,Tryz.f51,
     Tryz.f52,Tryz.f53,Tryz.f54,Tryz.f55,Tryz.f56,
     Tryz.f57,Tryz.f58,Tryz.f59,Tryz.f60,Tryz.f61,
     Tryz.f62,Tryz.f63,Tryz.f64,Tryz.f65,Tryz.f66,
     Tryz.f67,Tryz.f68,Tryz.f69,Tryz.f70,Tryz.f71,
     Tryz.f72,Tryz.f73,Tryz.f74,Tryz.f75,Tryz.f76,
     Tryz.f77,Tryz.f78,Tryz.f79,Tryz.f80,Tryz.f81,
     Tryz.f82,Tryz.f83,Tryz.f84,Tryz.f85,Tryz.f86,
     f87,Tryz.f88,Tryz.f89,Tryz.f90,Tryz.f91,
     Tryz.f92,Tryz.f93,Tryz.f94]).append
  ([Tryz.f95,Tryz.f96,Tryz.f97,Tryz.f98,Tryz.f99,
     Tryz.f100,Tryz.f101,Tryz.f102,Tryz.f103,Tryz.f104,
     Tryz.f105,Tryz.f106,Tryz.f107,Tryz.f108,Tryz.f109,
     Tryz.f110,Tryz.f111,Tryz.f112,Tryz.f113,Tryz.f114,
     Tryz.f115,Tryz.f116,Tryz.f117,Tryz.f118,Tryz.f119,
     Tryz.f120,Tryz.f121,Tryz.f122,Tryz.f123,Tryz.f124,
     Tryz.f125,Tryz.f126,Tryz.f127,Tryz.f128,Tryz.f129,
     Tryz.f130,Tryz.f131,Tryz.f132,Tryz.f133,Tryz.f134,
     Tryz.f135,Tryz.f136,Tryz.f137,Tryz.f138,Tryz.f139,
     Tryz.f140,Tryz.f141].append
   [Tryz.f142,Tryz.f143,Tryz.f144,Tryz.f145,Tryz.f146,
    Tryz.f147,Tryz.f148,Tryz.f149,Tryz.f150,Tryz.f151,
    Tryz.f152,Tryz.f153,Tryz.f154,Tryz.f155,Tryz.f156,
    Tryz.f157,Tryz.f158,Tryz.f159,Tryz.f160,Tryz.f161,
    Tryz.f162,Tryz.f163,Tryz.f164,Tryz.f165,Tryz.f166,
    Tryz.f167,Tryz.f168,Tryz.f169,Tryz.f170,Tryz.f171,
    Tryz.f172,Tryz.f173,Tryz.f174,Tryz.f175,Tryz.f176,
    Tryz.f177,Tryz.f178,Tryz.f179,Tryz.f180,Tryz.f181,
    Tryz.f182,Tryz.f183,Tryz.f184,Tryz.f185,Tryz.f186,
    Tryz.f187,Tryz.f188,Tryz.f189])).toArray
noncomputable def prog:Program := { toTables:=Tryz.progTables,funcs:=funcs }
theorem under_tb {p q:Program} (h:p.toTables=q.toTables) (t:TypeId):p.underlying t=q.underlying t:=by
 cases p; cases q; simp only at h; subst h; rfl
theorem depth_tb {p q:Program} (h:p.toTables=q.toTables):p.depth=q.depth:=by
 cases p; cases q; simp only at h; subst h; rfl
theorem tables_eq:prog.toTables=Tryz.prog.toTables:=rfl
@[simp] theorem info_x (t:TypeId):prog.info? t=Tryz.prog.info? t:=rfl
@[simp] theorem underlying_x (t:TypeId):prog.underlying t=Tryz.prog.underlying t:=under_tb tables_eq t
@[simp] theorem depth_x:prog.depth=Tryz.prog.depth:=depth_tb tables_eq
@[simp] theorem run_underlying_x (t:TypeId) (w:World):Sem.run prog (underlying t) w=Sem.run Tryz.prog (underlying t) w:=by
 simp only [underlying,program,Bind.bind,Sem.bind,Sem.run,underlying_x];cases Tryz.prog.underlying t <;> rfl
@[simp] theorem sizeOf_x (t:TypeId) (w:World):Sem.run prog (sizeOf t) w=Sem.run Tryz.prog (sizeOf t) w:=by
 simp only [sizeOf,typeInfo,program,Bind.bind,Sem.bind,Sem.run,info_x];cases Tryz.prog.info? t <;> rfl
@[simp] theorem isAgg_x (t:TypeId) (w:World):Sem.run prog (isAgg t) w=Sem.run Tryz.prog (isAgg t) w:=by
 simp only [isAgg,underlying,program,Bind.bind,Sem.bind,Sem.run,underlying_x];cases Tryz.prog.underlying t with
 | none=>rfl
 | some d=>cases d <;> rfl
@[simp] theorem zeroValue_x (t:TypeId) (w:World):Sem.run prog (zeroValue t) w=Sem.run Tryz.prog (zeroValue t) w:=by
 simp only [zeroValue,typeInfo,program,Bind.bind,Sem.bind,Sem.run,info_x];cases Tryz.prog.info? t with
 | none=>rfl
 | some i=>cases h:i.zero <;> simp [h,Sem.bind,Sem.run,pure,unsupported]
@[simp] theorem eqGuardType_x:∀ (d:Nat) (t:TypeId),prog.eqGuardType d t=Tryz.prog.eqGuardType d t
 | 0,_=>rfl
 | d+1,t=>by
  unfold Program.eqGuardType;simp only [underlying_x,eqGuardType_x d]
theorem func14:prog.funcs[14]?=some Tryz.f14:=by kernel_rfl
theorem func18:prog.funcs[18]?=some Tryz.f18:=by kernel_rfl
theorem func20:prog.funcs[20]?=some Tryz.f20:=by kernel_rfl
theorem func22:prog.funcs[22]?=some Tryz.f22:=by kernel_rfl
theorem func30:prog.funcs[30]?=some Tryz.f30:=by kernel_rfl
theorem func37:prog.funcs[37]?=some Tryz.f37:=by kernel_rfl
theorem func41:prog.funcs[41]?=some Tryz.f41:=by kernel_rfl
theorem func43:prog.funcs[43]?=some Tryz.f43:=by kernel_rfl
theorem func45:prog.funcs[45]?=some Tryz.f45:=by kernel_rfl
theorem func52:prog.funcs[52]?=some Tryz.f52:=by kernel_rfl
theorem func53:prog.funcs[53]?=some Tryz.f53:=by kernel_rfl
theorem func63:prog.funcs[63]?=some Tryz.f63:=by kernel_rfl
theorem func67:prog.funcs[67]?=some Tryz.f67:=by kernel_rfl
theorem func68:prog.funcs[68]?=some Tryz.f68:=by kernel_rfl
theorem func69:prog.funcs[69]?=some Tryz.f69:=by kernel_rfl
theorem func72:prog.funcs[72]?=some Tryz.f72:=by kernel_rfl
theorem func73:prog.funcs[73]?=some Tryz.f73:=by kernel_rfl
theorem func79:prog.funcs[79]?=some Tryz.f79:=by kernel_rfl
theorem func87:prog.funcs[87]?=some f87:=by kernel_rfl
theorem func88:prog.funcs[88]?=some Tryz.f88:=by kernel_rfl
theorem func91:prog.funcs[91]?=some Tryz.f91:=by kernel_rfl
theorem func92:prog.funcs[92]?=some Tryz.f92:=by kernel_rfl
theorem func93:prog.funcs[93]?=some Tryz.f93:=by kernel_rfl
theorem func94:prog.funcs[94]?=some Tryz.f94:=by kernel_rfl
theorem func95:prog.funcs[95]?=some Tryz.f95:=by kernel_rfl
theorem func96:prog.funcs[96]?=some Tryz.f96:=by kernel_rfl
theorem func97:prog.funcs[97]?=some Tryz.f97:=by kernel_rfl
theorem func99:prog.funcs[99]?=some Tryz.f99:=by kernel_rfl
theorem func104:prog.funcs[104]?=some Tryz.f104:=by kernel_rfl
theorem func111:prog.funcs[111]?=some Tryz.f111:=by kernel_rfl
theorem func112:prog.funcs[112]?=some Tryz.f112:=by kernel_rfl
theorem func114:prog.funcs[114]?=some Tryz.f114:=by kernel_rfl
theorem func115:prog.funcs[115]?=some Tryz.f115:=by kernel_rfl
theorem func116:prog.funcs[116]?=some Tryz.f116:=by kernel_rfl
theorem func117:prog.funcs[117]?=some Tryz.f117:=by kernel_rfl
theorem func118:prog.funcs[118]?=some Tryz.f118:=by kernel_rfl
theorem func119:prog.funcs[119]?=some Tryz.f119:=by kernel_rfl
theorem func120:prog.funcs[120]?=some Tryz.f120:=by kernel_rfl
theorem func121:prog.funcs[121]?=some Tryz.f121:=by kernel_rfl
theorem func124:prog.funcs[124]?=some Tryz.f124:=by kernel_rfl
theorem func146:prog.funcs[146]?=some Tryz.f146:=by kernel_rfl
theorem func147:prog.funcs[147]?=some Tryz.f147:=by kernel_rfl
theorem func149:prog.funcs[149]?=some Tryz.f149:=by kernel_rfl
theorem func150:prog.funcs[150]?=some Tryz.f150:=by kernel_rfl
theorem func151:prog.funcs[151]?=some Tryz.f151:=by kernel_rfl
theorem func152:prog.funcs[152]?=some Tryz.f152:=by kernel_rfl
theorem func153:prog.funcs[153]?=some Tryz.f153:=by kernel_rfl
theorem func154:prog.funcs[154]?=some Tryz.f154:=by kernel_rfl
theorem func155:prog.funcs[155]?=some Tryz.f155:=by kernel_rfl
theorem func156:prog.funcs[156]?=some Tryz.f156:=by kernel_rfl
theorem func167:prog.funcs[167]?=some Tryz.f167:=by kernel_rfl
theorem func168:prog.funcs[168]?=some Tryz.f168:=by kernel_rfl
theorem func169:prog.funcs[169]?=some Tryz.f169:=by kernel_rfl
theorem func170:prog.funcs[170]?=some Tryz.f170:=by kernel_rfl
theorem func172:prog.funcs[172]?=some Tryz.f172:=by kernel_rfl
theorem ntmps87:f87.ntmps=13:=rfl
attribute [simp] func14 func18 func20 func22 func30 func37 func41 func43 func45 func52 func53 func63 func67 func68 func69 func72 func73 func79 func87 func88 func91 func92 func93 func94 func95 func96 func97 func99 func104 func111 func112 func114 func115 func116 func117 func118 func119 func120 func121 func124 func146 func147 func149 func150 func151 func152 func153 func154 func155 func156 func167 func168 func169 func170 func172 ntmps87
@[simp] theorem stoodInHeld66:prog.stoodInHeld 66=false:=by kernel_rfl
@[simp] theorem stoodInHeld149:prog.stoodInHeld 149=false:=by kernel_rfl
@[simp] theorem stoodInHeld65:prog.stoodInHeld 65=false:=by kernel_rfl
@[simp] theorem stoodInHeld152:prog.stoodInHeld 152=false:=by kernel_rfl
@[simp] theorem stoodInHeld8:prog.stoodInHeld 8=false:=by kernel_rfl
@[simp] theorem stoodInHeld95:prog.stoodInHeld 95=false:=by kernel_rfl
@[simp] theorem stoodInHeld142:prog.stoodInHeld 142=false:=by kernel_rfl
@[simp] theorem stoodInHeld13:prog.stoodInHeld 13=true:=by kernel_rfl
@[simp] theorem stoodInHeld214:prog.stoodInHeld 214=true:=by kernel_rfl
@[simp] theorem stoodInHeld211:prog.stoodInHeld 211=true:=by kernel_rfl
@[simp] theorem stoodInHeld45:prog.stoodInHeld 45=false:=by kernel_rfl
@[simp] theorem stoodInHeld44:prog.stoodInHeld 44=false:=by kernel_rfl
@[simp] theorem stoodInHeld110:prog.stoodInHeld 110=false:=by kernel_rfl
@[simp] theorem stoodInHeld19:prog.stoodInHeld 19=true:=by kernel_rfl
@[simp] theorem stoodInHeld107:prog.stoodInHeld 107=false:=by kernel_rfl
@[simp] theorem stoodInHeld30:prog.stoodInHeld 30=false:=by kernel_rfl
@[simp] theorem stoodInHeld25:prog.stoodInHeld 25=false:=by kernel_rfl
@[simp] theorem stoodInHeld157:prog.stoodInHeld 157=false:=by kernel_rfl
@[simp] theorem stoodInHeld212:prog.stoodInHeld 212=true:=by kernel_rfl
@[simp] theorem stoodInHeld143:prog.stoodInHeld 143=false:=by kernel_rfl
@[simp] theorem stoodInHeld224:prog.stoodInHeld 224=true:=by kernel_rfl
@[simp] theorem stoodInHeld138:prog.stoodInHeld 138=false:=by kernel_rfl
@[simp] theorem stoodInHeld83:prog.stoodInHeld 83=false:=by kernel_rfl
@[simp] theorem stoodInHeld24:prog.stoodInHeld 24=false:=by kernel_rfl
@[simp] theorem stoodInHeld154:prog.stoodInHeld 154=false:=by kernel_rfl
@[simp] theorem stoodInHeld139:prog.stoodInHeld 139=false:=by kernel_rfl
@[simp] theorem stoodInHeld31:prog.stoodInHeld 31=false:=by kernel_rfl
@[simp] theorem stoodInHeld155:prog.stoodInHeld 155=false:=by kernel_rfl
@[simp] theorem stoodInHeld158:prog.stoodInHeld 158=false:=by kernel_rfl
@[simp] theorem stoodInHeld144:prog.stoodInHeld 144=false:=by kernel_rfl
@[simp] theorem stoodInHeld151:prog.stoodInHeld 151=false:=by kernel_rfl
@[simp] theorem stoodInHeld119:prog.stoodInHeld 119=false:=by kernel_rfl
@[simp] theorem stoodInHeld126:prog.stoodInHeld 126=false:=by kernel_rfl
@[simp] theorem stoodInHeld215:prog.stoodInHeld 215=true:=by kernel_rfl
@[simp] theorem stoodInHeld150:prog.stoodInHeld 150=false:=by kernel_rfl
@[simp] theorem stoodInHeld7:prog.stoodInHeld 7=false:=by kernel_rfl
@[simp] theorem stoodInHeld127:prog.stoodInHeld 127=false:=by kernel_rfl
@[simp] theorem stoodInHeld109:prog.stoodInHeld 109=false:=by kernel_rfl
@[simp] theorem stoodInHeld132:prog.stoodInHeld 132=false:=by kernel_rfl
@[simp] theorem stoodInHeld108:prog.stoodInHeld 108=false:=by kernel_rfl
@[simp] theorem stoodInHeld77:prog.stoodInHeld 77=false:=by kernel_rfl
@[simp] theorem stoodInHeld223:prog.stoodInHeld 223=true:=by kernel_rfl
@[simp] theorem stoodInHeld14:prog.stoodInHeld 14=true:=by kernel_rfl
@[simp] theorem stoodInHeld133:prog.stoodInHeld 133=false:=by kernel_rfl
@[simp] theorem stoodInHeld76:prog.stoodInHeld 76=false:=by kernel_rfl
@[simp] theorem stoodInHeld82:prog.stoodInHeld 82=false:=by kernel_rfl
@[simp] theorem stoodInHeld18:prog.stoodInHeld 18=true:=by kernel_rfl
@[simp] theorem stoodInHeld96:prog.stoodInHeld 96=false:=by kernel_rfl
theorem underlying0:prog.underlying 0=some (Go.TypeDesc.tuple #[]):=(underlying_x 0).trans Tryz.underlying0
theorem underlying1:prog.underlying 1=some (Go.TypeDesc.func #[] #[] false):=(underlying_x 1).trans Tryz.underlying1
theorem underlying2:prog.underlying 2=some (Go.TypeDesc.int Go.IntKind.i64):=(underlying_x 2).trans Tryz.underlying2
theorem underlying3:prog.underlying 3=some (Go.TypeDesc.int Go.IntKind.i64):=(underlying_x 3).trans Tryz.underlying3
theorem underlying4:prog.underlying 4=some Go.TypeDesc.bool:=(underlying_x 4).trans Tryz.underlying4
theorem underlying5:prog.underlying 5=some (Go.TypeDesc.int Go.IntKind.u8):=(underlying_x 5).trans Tryz.underlying5
theorem underlying6:prog.underlying 6=some (Go.TypeDesc.int Go.IntKind.u8):=(underlying_x 6).trans Tryz.underlying6
theorem underlying7 : prog.underlying 7 = some (Go.TypeDesc.struct #[{ name := "x", type := 2, offset := 0, embedded := false, tag := "", pkgPath := "runtime", byteOffset := 0 }, { name := "y", type := 3, offset := 1, embedded := false, tag := "", pkgPath := "runtime", byteOffset := 8 }, { name := "signed", type := 4, offset := 2, embedded := false, tag := "", pkgPath := "runtime", byteOffset := 16 }, { name := "code", type := 6, offset := 3, embedded := false, tag := "", pkgPath := "runtime", byteOffset := 17 }]) := (underlying_x 7).trans Tryz.underlying7
theorem underlying8 : prog.underlying 8 = some (Go.TypeDesc.struct #[{ name := "x", type := 2, offset := 0, embedded := false, tag := "", pkgPath := "runtime", byteOffset := 0 }, { name := "y", type := 3, offset := 1, embedded := false, tag := "", pkgPath := "runtime", byteOffset := 8 }, { name := "signed", type := 4, offset := 2, embedded := false, tag := "", pkgPath := "runtime", byteOffset := 16 }, { name := "code", type := 6, offset := 3, embedded := false, tag := "", pkgPath := "runtime", byteOffset := 17 }]) := (underlying_x 8).trans Tryz.underlying8
theorem underlying9:prog.underlying 9=some Go.TypeDesc.string:=(underlying_x 9).trans Tryz.underlying9
theorem underlying10:prog.underlying 10=some Go.TypeDesc.string:=(underlying_x 10).trans Tryz.underlying10
theorem underlying11:prog.underlying 11=some Go.TypeDesc.string:=(underlying_x 11).trans Tryz.underlying11
theorem underlying12:prog.underlying 12=some (Go.TypeDesc.int Go.IntKind.u64):=(underlying_x 12).trans Tryz.underlying12
theorem underlying13 : prog.underlying 13 = some (Go.TypeDesc.struct #[{ name := "msg", type := 9, offset := 0, embedded := false, tag := "", pkgPath := "runtime", byteOffset := 0 }, { name := "addr", type := 12, offset := 1, embedded := false, tag := "", pkgPath := "runtime", byteOffset := 16 }]) := (underlying_x 13).trans Tryz.underlying13
theorem underlying14 : prog.underlying 14 = some (Go.TypeDesc.struct #[{ name := "msg", type := 9, offset := 0, embedded := false, tag := "", pkgPath := "runtime", byteOffset := 0 }, { name := "addr", type := 12, offset := 1, embedded := false, tag := "", pkgPath := "runtime", byteOffset := 16 }]) := (underlying_x 14).trans Tryz.underlying14
theorem underlying15:prog.underlying 15=some (Go.TypeDesc.pointer 212):=(underlying_x 15).trans Tryz.underlying15
theorem underlying16:prog.underlying 16=some (Go.TypeDesc.pointer 215):=(underlying_x 16).trans Tryz.underlying16
theorem underlying17:prog.underlying 17=some (Go.TypeDesc.pointer 224):=(underlying_x 17).trans Tryz.underlying17
theorem underlying18 : prog.underlying 18 = some (Go.TypeDesc.struct #[{ name := "typ", type := 17, offset := 0, embedded := false, tag := "", pkgPath := "internal/runtime/maps", byteOffset := 0 }]) := (underlying_x 18).trans Tryz.underlying18
theorem underlying19 : prog.underlying 19 = some (Go.TypeDesc.struct #[{ name := "typ", type := 17, offset := 0, embedded := false, tag := "", pkgPath := "internal/runtime/maps", byteOffset := 0 }]) := (underlying_x 19).trans Tryz.underlying19
theorem underlying20:prog.underlying 20=some (Go.TypeDesc.interface #[]):=(underlying_x 20).trans Tryz.underlying20
theorem underlying21:prog.underlying 21=some (Go.TypeDesc.int Go.IntKind.i32):=(underlying_x 21).trans Tryz.underlying21
theorem underlying22:prog.underlying 22=some (Go.TypeDesc.slice 83):=(underlying_x 22).trans Tryz.underlying22
theorem underlying23:prog.underlying 23=some (Go.TypeDesc.slice 85):=(underlying_x 23).trans Tryz.underlying23
theorem underlying24 : prog.underlying 24 = some (Go.TypeDesc.struct #[{ name := "Ribs", type := 22, offset := 0, embedded := false, tag := "", pkgPath := "", byteOffset := 0 }, { name := "Loads", type := 23, offset := 1, embedded := false, tag := "", pkgPath := "", byteOffset := 24 }]) := (underlying_x 24).trans Tryz.underlying24
theorem underlying25 : prog.underlying 25 = some (Go.TypeDesc.struct #[{ name := "Ribs", type := 22, offset := 0, embedded := false, tag := "", pkgPath := "", byteOffset := 0 }, { name := "Loads", type := 23, offset := 1, embedded := false, tag := "", pkgPath := "", byteOffset := 24 }]) := (underlying_x 25).trans Tryz.underlying25
theorem underlying26:prog.underlying 26=some (Go.TypeDesc.func #[25,3] #[3] false):=(underlying_x 26).trans Tryz.underlying26
theorem underlying27:prog.underlying 27=some (Go.TypeDesc.func #[31] #[4] false):=(underlying_x 27).trans Tryz.underlying27
theorem underlying28:prog.underlying 28=some (Go.TypeDesc.slice 45):=(underlying_x 28).trans Tryz.underlying28
theorem underlying29:prog.underlying 29=some (Go.TypeDesc.slice 46):=(underlying_x 29).trans Tryz.underlying29
theorem underlying30 : prog.underlying 30 = some (Go.TypeDesc.struct #[{ name := "Ribs", type := 28, offset := 0, embedded := false, tag := "", pkgPath := "", byteOffset := 0 }, { name := "Loads", type := 29, offset := 1, embedded := false, tag := "", pkgPath := "", byteOffset := 24 }]) := (underlying_x 30).trans Tryz.underlying30
theorem underlying31 : prog.underlying 31 = some (Go.TypeDesc.struct #[{ name := "Ribs", type := 28, offset := 0, embedded := false, tag := "", pkgPath := "", byteOffset := 0 }, { name := "Loads", type := 29, offset := 1, embedded := false, tag := "", pkgPath := "", byteOffset := 24 }]) := (underlying_x 31).trans Tryz.underlying31
theorem underlying32:prog.underlying 32=some (Go.TypeDesc.func #[25] #[31] false):=(underlying_x 32).trans Tryz.underlying32
theorem underlying33:prog.underlying 33=some (Go.TypeDesc.func #[31,31] #[4] false):=(underlying_x 33).trans Tryz.underlying33
theorem underlying34:prog.underlying 34=some (Go.TypeDesc.func #[25] #[4] false):=(underlying_x 34).trans Tryz.underlying34
theorem underlying35:prog.underlying 35=some (Go.TypeDesc.slice 5):=(underlying_x 35).trans Tryz.underlying35
theorem underlying36:prog.underlying 36=some (Go.TypeDesc.func #[35] #[4] false):=(underlying_x 36).trans Tryz.underlying36
theorem underlying37:prog.underlying 37=some (Go.TypeDesc.func #[35] #[31] false):=(underlying_x 37).trans Tryz.underlying37
theorem underlying38:prog.underlying 38=some (Go.TypeDesc.slice 3):=(underlying_x 38).trans Tryz.underlying38
theorem underlying39:prog.underlying 39=some (Go.TypeDesc.func #[31] #[38] false):=(underlying_x 39).trans Tryz.underlying39
theorem underlying40:prog.underlying 40=some (Go.TypeDesc.tuple #[3,4]):=(underlying_x 40).trans Tryz.underlying40
theorem underlying41:prog.underlying 41=some (Go.TypeDesc.func #[31] #[3,4] false):=(underlying_x 41).trans Tryz.underlying41
theorem underlying42:prog.underlying 42=some (Go.TypeDesc.func #[45,46] #[3] false):=(underlying_x 42).trans Tryz.underlying42
theorem underlying43:prog.underlying 43=some (Go.TypeDesc.slice 110):=(underlying_x 43).trans Tryz.underlying43
theorem underlying44 : prog.underlying 44 = some (Go.TypeDesc.struct #[{ name := "Joints", type := 43, offset := 0, embedded := false, tag := "", pkgPath := "", byteOffset := 0 }]) := (underlying_x 44).trans Tryz.underlying44
theorem underlying45 : prog.underlying 45 = some (Go.TypeDesc.struct #[{ name := "Joints", type := 43, offset := 0, embedded := false, tag := "", pkgPath := "", byteOffset := 0 }]) := (underlying_x 45).trans Tryz.underlying45
theorem underlying46:prog.underlying 46=some (Go.TypeDesc.slice 77):=(underlying_x 46).trans Tryz.underlying46
theorem underlying47:prog.underlying 47=some (Go.TypeDesc.func #[38,3] #[4] false):=(underlying_x 47).trans Tryz.underlying47
theorem underlying48:prog.underlying 48=some (Go.TypeDesc.func #[45,46] #[4] false):=(underlying_x 48).trans Tryz.underlying48
theorem underlying49:prog.underlying 49=some (Go.TypeDesc.tuple #[31,4]):=(underlying_x 49).trans Tryz.underlying49
theorem underlying50:prog.underlying 50=some (Go.TypeDesc.func #[31,3,3] #[31,4] false):=(underlying_x 50).trans Tryz.underlying50
theorem underlying51:prog.underlying 51=some (Go.TypeDesc.func #[31] #[3] false):=(underlying_x 51).trans Tryz.underlying51
theorem underlying52:prog.underlying 52=some (Go.TypeDesc.func #[38,38] #[4] false):=(underlying_x 52).trans Tryz.underlying52
theorem underlying53:prog.underlying 53=some (Go.TypeDesc.func #[31,3] #[3] false):=(underlying_x 53).trans Tryz.underlying53
theorem underlying54:prog.underlying 54=some (Go.TypeDesc.func #[38,3] #[3] false):=(underlying_x 54).trans Tryz.underlying54
theorem underlying55:prog.underlying 55=some (Go.TypeDesc.func #[22,3] #[3] false):=(underlying_x 55).trans Tryz.underlying55
theorem underlying56:prog.underlying 56=some (Go.TypeDesc.func #[23,3] #[3] false):=(underlying_x 56).trans Tryz.underlying56
theorem underlying57:prog.underlying 57=some (Go.TypeDesc.func #[22] #[28] false):=(underlying_x 57).trans Tryz.underlying57
theorem underlying58:prog.underlying 58=some (Go.TypeDesc.func #[23] #[29] false):=(underlying_x 58).trans Tryz.underlying58
theorem underlying59:prog.underlying 59=some (Go.TypeDesc.func #[28,28] #[4] false):=(underlying_x 59).trans Tryz.underlying59
theorem underlying60:prog.underlying 60=some (Go.TypeDesc.func #[29,29] #[4] false):=(underlying_x 60).trans Tryz.underlying60
theorem underlying61:prog.underlying 61=some (Go.TypeDesc.func #[62] #[31] false):=(underlying_x 61).trans Tryz.underlying61
theorem underlying62:prog.underlying 62=some (Go.TypeDesc.pointer 96):=(underlying_x 62).trans Tryz.underlying62
theorem underlying63:prog.underlying 63=some (Go.TypeDesc.func #[35] #[62] false):=(underlying_x 63).trans Tryz.underlying63
theorem underlying64:prog.underlying 64=some (Go.TypeDesc.chan Go.ChanDir.both 3):=(underlying_x 64).trans Tryz.underlying64
theorem underlying65 : prog.underlying 65 = some (Go.TypeDesc.struct #[{ name := "H", type := 3, offset := 0, embedded := false, tag := "", pkgPath := "", byteOffset := 0 }, { name := "V", type := 3, offset := 1, embedded := false, tag := "", pkgPath := "", byteOffset := 8 }, { name := "M", type := 3, offset := 2, embedded := false, tag := "", pkgPath := "", byteOffset := 16 }, { name := "Den", type := 3, offset := 3, embedded := false, tag := "", pkgPath := "", byteOffset := 24 }]) := (underlying_x 65).trans Tryz.underlying65
theorem underlying66 : prog.underlying 66 = some (Go.TypeDesc.struct #[{ name := "H", type := 3, offset := 0, embedded := false, tag := "", pkgPath := "", byteOffset := 0 }, { name := "V", type := 3, offset := 1, embedded := false, tag := "", pkgPath := "", byteOffset := 8 }, { name := "M", type := 3, offset := 2, embedded := false, tag := "", pkgPath := "", byteOffset := 16 }, { name := "Den", type := 3, offset := 3, embedded := false, tag := "", pkgPath := "", byteOffset := 24 }]) := (underlying_x 66).trans Tryz.underlying66
theorem underlying67:prog.underlying 67=some (Go.TypeDesc.tuple #[66,4]):=(underlying_x 67).trans Tryz.underlying67
theorem underlying68:prog.underlying 68=some (Go.TypeDesc.func #[45,46] #[66,4] false):=(underlying_x 68).trans Tryz.underlying68
theorem underlying69:prog.underlying 69=some (Go.TypeDesc.func #[3,3] #[3] false):=(underlying_x 69).trans Tryz.underlying69
theorem underlying70:prog.underlying 70=some (Go.TypeDesc.func #[45,46,3] #[3] false):=(underlying_x 70).trans Tryz.underlying70
theorem underlying71:prog.underlying 71=some (Go.TypeDesc.slice 66):=(underlying_x 71).trans Tryz.underlying71
theorem underlying72:prog.underlying 72=some (Go.TypeDesc.func #[45,46] #[71] false):=(underlying_x 72).trans Tryz.underlying72
theorem underlying73:prog.underlying 73=some (Go.TypeDesc.func #[31] #[31] false):=(underlying_x 73).trans Tryz.underlying73
theorem underlying74:prog.underlying 74=some (Go.TypeDesc.func #[3,3,3] #[4] false):=(underlying_x 74).trans Tryz.underlying74
theorem underlying75:prog.underlying 75=some (Go.TypeDesc.func #[45,3] #[3] false):=(underlying_x 75).trans Tryz.underlying75
theorem underlying76 : prog.underlying 76 = some (Go.TypeDesc.struct #[{ name := "Stone", type := 3, offset := 0, embedded := false, tag := "", pkgPath := "", byteOffset := 0 }, { name := "Weight", type := 3, offset := 1, embedded := false, tag := "", pkgPath := "", byteOffset := 8 }, { name := "X", type := 3, offset := 2, embedded := false, tag := "", pkgPath := "", byteOffset := 16 }]) := (underlying_x 76).trans Tryz.underlying76
theorem underlying77 : prog.underlying 77 = some (Go.TypeDesc.struct #[{ name := "Stone", type := 3, offset := 0, embedded := false, tag := "", pkgPath := "", byteOffset := 0 }, { name := "Weight", type := 3, offset := 1, embedded := false, tag := "", pkgPath := "", byteOffset := 8 }, { name := "X", type := 3, offset := 2, embedded := false, tag := "", pkgPath := "", byteOffset := 16 }]) := (underlying_x 77).trans Tryz.underlying77
theorem underlying78:prog.underlying 78=some (Go.TypeDesc.func #[28,3] #[3] false):=(underlying_x 78).trans Tryz.underlying78
theorem underlying79:prog.underlying 79=some (Go.TypeDesc.func #[29,3] #[3] false):=(underlying_x 79).trans Tryz.underlying79
theorem underlying80:prog.underlying 80=some (Go.TypeDesc.func #[83,3] #[3] false):=(underlying_x 80).trans Tryz.underlying80
theorem underlying81:prog.underlying 81=some (Go.TypeDesc.slice 144):=(underlying_x 81).trans Tryz.underlying81
theorem underlying82 : prog.underlying 82 = some (Go.TypeDesc.struct #[{ name := "Joints", type := 81, offset := 0, embedded := false, tag := "", pkgPath := "", byteOffset := 0 }]) := (underlying_x 82).trans Tryz.underlying82
theorem underlying83 : prog.underlying 83 = some (Go.TypeDesc.struct #[{ name := "Joints", type := 81, offset := 0, embedded := false, tag := "", pkgPath := "", byteOffset := 0 }]) := (underlying_x 83).trans Tryz.underlying83
theorem underlying84:prog.underlying 84=some (Go.TypeDesc.func #[85,3] #[3] false):=(underlying_x 84).trans Tryz.underlying84
theorem underlying85:prog.underlying 85=some (Go.TypeDesc.slice 119):=(underlying_x 85).trans Tryz.underlying85
theorem underlying86:prog.underlying 86=some (Go.TypeDesc.func #[83] #[45] false):=(underlying_x 86).trans Tryz.underlying86
theorem underlying87:prog.underlying 87=some (Go.TypeDesc.func #[85] #[46] false):=(underlying_x 87).trans Tryz.underlying87
theorem underlying88:prog.underlying 88=some (Go.TypeDesc.func #[45,45] #[4] false):=(underlying_x 88).trans Tryz.underlying88
theorem underlying89:prog.underlying 89=some (Go.TypeDesc.func #[46,46] #[4] false):=(underlying_x 89).trans Tryz.underlying89
theorem underlying90:prog.underlying 90=some (Go.TypeDesc.func #[62,3] #[3] false):=(underlying_x 90).trans Tryz.underlying90
theorem underlying91:prog.underlying 91=some (Go.TypeDesc.func #[62] #[45] false):=(underlying_x 91).trans Tryz.underlying91
theorem underlying92:prog.underlying 92=some (Go.TypeDesc.func #[62,3] #[4] false):=(underlying_x 92).trans Tryz.underlying92
theorem underlying93:prog.underlying 93=some (Go.TypeDesc.func #[3] #[45] false):=(underlying_x 93).trans Tryz.underlying93
theorem underlying94:prog.underlying 94=some (Go.TypeDesc.func #[62,45] #[46] false):=(underlying_x 94).trans Tryz.underlying94
theorem underlying95 : prog.underlying 95 = some (Go.TypeDesc.struct #[{ name := "b", type := 35, offset := 0, embedded := false, tag := "", pkgPath := "loop.example/g03301/spec", byteOffset := 0 }, { name := "i", type := 3, offset := 1, embedded := false, tag := "", pkgPath := "loop.example/g03301/spec", byteOffset := 24 }, { name := "h", type := 3, offset := 2, embedded := false, tag := "", pkgPath := "loop.example/g03301/spec", byteOffset := 32 }]) := (underlying_x 95).trans Tryz.underlying95
theorem underlying96 : prog.underlying 96 = some (Go.TypeDesc.struct #[{ name := "b", type := 35, offset := 0, embedded := false, tag := "", pkgPath := "loop.example/g03301/spec", byteOffset := 0 }, { name := "i", type := 3, offset := 1, embedded := false, tag := "", pkgPath := "loop.example/g03301/spec", byteOffset := 24 }, { name := "h", type := 3, offset := 2, embedded := false, tag := "", pkgPath := "loop.example/g03301/spec", byteOffset := 32 }]) := (underlying_x 96).trans Tryz.underlying96
theorem underlying97:prog.underlying 97=some (Go.TypeDesc.func #[71,99] #[66] false):=(underlying_x 97).trans Tryz.underlying97
theorem underlying98:prog.underlying 98=some (Go.TypeDesc.func #[66,66] #[3] false):=(underlying_x 98).trans Tryz.underlying98
theorem underlying99:prog.underlying 99=some (Go.TypeDesc.func #[66,66] #[4] false):=(underlying_x 99).trans Tryz.underlying99
theorem underlying100:prog.underlying 100=some (Go.TypeDesc.tuple #[38,38]):=(underlying_x 100).trans Tryz.underlying100
theorem underlying101:prog.underlying 101=some (Go.TypeDesc.func #[45,46] #[38,38] false):=(underlying_x 101).trans Tryz.underlying101
theorem underlying102:prog.underlying 102=some (Go.TypeDesc.func #[103] #[71] false):=(underlying_x 102).trans Tryz.underlying102
theorem underlying103:prog.underlying 103=some (Go.TypeDesc.slice 133):=(underlying_x 103).trans Tryz.underlying103
theorem underlying104:prog.underlying 104=some (Go.TypeDesc.func #[45,46] #[103] false):=(underlying_x 104).trans Tryz.underlying104
theorem underlying105:prog.underlying 105=some (Go.TypeDesc.func #[45] #[45] false):=(underlying_x 105).trans Tryz.underlying105
theorem underlying106:prog.underlying 106=some (Go.TypeDesc.func #[46] #[46] false):=(underlying_x 106).trans Tryz.underlying106
theorem underlying107 : prog.underlying 107 = some (Go.TypeDesc.struct #[{ name := "X", type := 3, offset := 0, embedded := false, tag := "", pkgPath := "", byteOffset := 0 }, { name := "Y", type := 3, offset := 1, embedded := false, tag := "", pkgPath := "", byteOffset := 8 }]) := (underlying_x 107).trans Tryz.underlying107
theorem underlying108 : prog.underlying 108 = some (Go.TypeDesc.struct #[{ name := "X", type := 3, offset := 0, embedded := false, tag := "", pkgPath := "", byteOffset := 0 }, { name := "Y", type := 3, offset := 1, embedded := false, tag := "", pkgPath := "", byteOffset := 8 }]) := (underlying_x 108).trans Tryz.underlying108
theorem underlying109 : prog.underlying 109 = some (Go.TypeDesc.struct #[{ name := "Inner", type := 108, offset := 0, embedded := false, tag := "", pkgPath := "", byteOffset := 0 }, { name := "Outer", type := 108, offset := 2, embedded := false, tag := "", pkgPath := "", byteOffset := 16 }]) := (underlying_x 109).trans Tryz.underlying109
theorem underlying110 : prog.underlying 110 = some (Go.TypeDesc.struct #[{ name := "Inner", type := 108, offset := 0, embedded := false, tag := "", pkgPath := "", byteOffset := 0 }, { name := "Outer", type := 108, offset := 2, embedded := false, tag := "", pkgPath := "", byteOffset := 16 }]) := (underlying_x 110).trans Tryz.underlying110
theorem underlying111:prog.underlying 111=some (Go.TypeDesc.func #[45] #[4] false):=(underlying_x 111).trans Tryz.underlying111
theorem underlying112:prog.underlying 112=some (Go.TypeDesc.func #[3] #[4] false):=(underlying_x 112).trans Tryz.underlying112
theorem underlying113:prog.underlying 113=some (Go.TypeDesc.func #[43,3] #[3] false):=(underlying_x 113).trans Tryz.underlying113
theorem underlying114:prog.underlying 114=some (Go.TypeDesc.func #[46,3] #[3] false):=(underlying_x 114).trans Tryz.underlying114
theorem underlying115:prog.underlying 115=some (Go.TypeDesc.func #[45,46,4] #[66,4] false):=(underlying_x 115).trans Tryz.underlying115
theorem underlying116:prog.underlying 116=some (Go.TypeDesc.func #[81,3] #[3] false):=(underlying_x 116).trans Tryz.underlying116
theorem underlying117:prog.underlying 117=some (Go.TypeDesc.func #[81] #[43] false):=(underlying_x 117).trans Tryz.underlying117
theorem underlying118:prog.underlying 118=some (Go.TypeDesc.func #[119] #[77] false):=(underlying_x 118).trans Tryz.underlying118
theorem underlying119 : prog.underlying 119 = some (Go.TypeDesc.struct #[{ name := "Stone", type := 3, offset := 0, embedded := false, tag := "", pkgPath := "", byteOffset := 0 }, { name := "Weight", type := 3, offset := 1, embedded := false, tag := "", pkgPath := "", byteOffset := 8 }, { name := "X", type := 3, offset := 2, embedded := false, tag := "", pkgPath := "", byteOffset := 16 }]) := (underlying_x 119).trans Tryz.underlying119
theorem underlying120:prog.underlying 120=some (Go.TypeDesc.func #[43,43] #[4] false):=(underlying_x 120).trans Tryz.underlying120
theorem underlying121:prog.underlying 121=some (Go.TypeDesc.func #[77,77] #[4] false):=(underlying_x 121).trans Tryz.underlying121
theorem underlying122:prog.underlying 122=some (Go.TypeDesc.func #[62] #[3] false):=(underlying_x 122).trans Tryz.underlying122
theorem underlying123:prog.underlying 123=some (Go.TypeDesc.func #[62,38] #[3] false):=(underlying_x 123).trans Tryz.underlying123
theorem underlying124:prog.underlying 124=some (Go.TypeDesc.func #[66] #[4] false):=(underlying_x 124).trans Tryz.underlying124
theorem underlying125:prog.underlying 125=some (Go.TypeDesc.slice 108):=(underlying_x 125).trans Tryz.underlying125
theorem underlying126 : prog.underlying 126 = some (Go.TypeDesc.struct #[{ name := "Corners", type := 125, offset := 0, embedded := false, tag := "", pkgPath := "", byteOffset := 0 }]) := (underlying_x 126).trans Tryz.underlying126
theorem underlying127 : prog.underlying 127 = some (Go.TypeDesc.struct #[{ name := "Corners", type := 125, offset := 0, embedded := false, tag := "", pkgPath := "", byteOffset := 0 }]) := (underlying_x 127).trans Tryz.underlying127
theorem underlying128:prog.underlying 128=some (Go.TypeDesc.tuple #[127,4]):=(underlying_x 128).trans Tryz.underlying128
theorem underlying129:prog.underlying 129=some (Go.TypeDesc.func #[110,110] #[127,4] false):=(underlying_x 129).trans Tryz.underlying129
theorem underlying130:prog.underlying 130=some (Go.TypeDesc.func #[127] #[3] false):=(underlying_x 130).trans Tryz.underlying130
theorem underlying131:prog.underlying 131=some (Go.TypeDesc.func #[133] #[4] false):=(underlying_x 131).trans Tryz.underlying131
theorem underlying132 : prog.underlying 132 = some (Go.TypeDesc.struct #[{ name := "A", type := 3, offset := 0, embedded := false, tag := "", pkgPath := "", byteOffset := 0 }, { name := "B", type := 3, offset := 1, embedded := false, tag := "", pkgPath := "", byteOffset := 8 }, { name := "C", type := 3, offset := 2, embedded := false, tag := "", pkgPath := "", byteOffset := 16 }, { name := "D", type := 3, offset := 3, embedded := false, tag := "", pkgPath := "", byteOffset := 24 }]) := (underlying_x 132).trans Tryz.underlying132
theorem underlying133 : prog.underlying 133 = some (Go.TypeDesc.struct #[{ name := "A", type := 3, offset := 0, embedded := false, tag := "", pkgPath := "", byteOffset := 0 }, { name := "B", type := 3, offset := 1, embedded := false, tag := "", pkgPath := "", byteOffset := 8 }, { name := "C", type := 3, offset := 2, embedded := false, tag := "", pkgPath := "", byteOffset := 16 }, { name := "D", type := 3, offset := 3, embedded := false, tag := "", pkgPath := "", byteOffset := 24 }]) := (underlying_x 133).trans Tryz.underlying133
theorem underlying134:prog.underlying 134=some (Go.TypeDesc.func #[133,133,133] #[66,4] false):=(underlying_x 134).trans Tryz.underlying134
theorem underlying135:prog.underlying 135=some (Go.TypeDesc.func #[71,66] #[4] false):=(underlying_x 135).trans Tryz.underlying135
theorem underlying136:prog.underlying 136=some (Go.TypeDesc.func #[66,133] #[4] false):=(underlying_x 136).trans Tryz.underlying136
theorem underlying137:prog.underlying 137=some (Go.TypeDesc.func #[43] #[43] false):=(underlying_x 137).trans Tryz.underlying137
theorem underlying138 : prog.underlying 138 = some (Go.TypeDesc.struct #[{ name := "weight", type := 3, offset := 0, embedded := false, tag := "", pkgPath := "loop.example/g03301/impl", byteOffset := 0 }, { name := "moment", type := 3, offset := 1, embedded := false, tag := "", pkgPath := "loop.example/g03301/impl", byteOffset := 8 }]) := (underlying_x 138).trans Tryz.underlying138
theorem underlying139 : prog.underlying 139 = some (Go.TypeDesc.struct #[{ name := "weight", type := 3, offset := 0, embedded := false, tag := "", pkgPath := "loop.example/g03301/impl", byteOffset := 0 }, { name := "moment", type := 3, offset := 1, embedded := false, tag := "", pkgPath := "loop.example/g03301/impl", byteOffset := 8 }]) := (underlying_x 139).trans Tryz.underlying139
theorem underlying140:prog.underlying 140=some (Go.TypeDesc.func #[45,46,3] #[139] false):=(underlying_x 140).trans Tryz.underlying140
theorem underlying141:prog.underlying 141=some (Go.TypeDesc.func #[144] #[110] false):=(underlying_x 141).trans Tryz.underlying141
theorem underlying142 : prog.underlying 142 = some (Go.TypeDesc.struct #[{ name := "X", type := 3, offset := 0, embedded := false, tag := "", pkgPath := "", byteOffset := 0 }, { name := "Y", type := 3, offset := 1, embedded := false, tag := "", pkgPath := "", byteOffset := 8 }]) := (underlying_x 142).trans Tryz.underlying142
theorem underlying143 : prog.underlying 143 = some (Go.TypeDesc.struct #[{ name := "Inner", type := 142, offset := 0, embedded := false, tag := "", pkgPath := "", byteOffset := 0 }, { name := "Outer", type := 142, offset := 2, embedded := false, tag := "", pkgPath := "", byteOffset := 16 }]) := (underlying_x 143).trans Tryz.underlying143
theorem underlying144 : prog.underlying 144 = some (Go.TypeDesc.struct #[{ name := "Inner", type := 142, offset := 0, embedded := false, tag := "", pkgPath := "", byteOffset := 0 }, { name := "Outer", type := 142, offset := 2, embedded := false, tag := "", pkgPath := "", byteOffset := 16 }]) := (underlying_x 144).trans Tryz.underlying144
theorem underlying145:prog.underlying 145=some (Go.TypeDesc.func #[110,110] #[4] false):=(underlying_x 145).trans Tryz.underlying145
theorem underlying146:prog.underlying 146=some (Go.TypeDesc.int Go.IntKind.u64):=(underlying_x 146).trans Tryz.underlying146
theorem underlying147:prog.underlying 147=some (Go.TypeDesc.func #[103] #[4] true):=(underlying_x 147).trans Tryz.underlying147
theorem underlying148:prog.underlying 148=some (Go.TypeDesc.slice 71):=(underlying_x 148).trans Tryz.underlying148
theorem underlying149:prog.underlying 149=some (Go.TypeDesc.struct #[]):=(underlying_x 149).trans Tryz.underlying149
theorem underlying150:prog.underlying 150=some (Go.TypeDesc.struct #[]):=(underlying_x 150).trans Tryz.underlying150
theorem underlying151:prog.underlying 151=some (Go.TypeDesc.struct #[]):=(underlying_x 151).trans Tryz.underlying151
theorem underlying152:prog.underlying 152=some (Go.TypeDesc.struct #[]):=(underlying_x 152).trans Tryz.underlying152
theorem underlying153:prog.underlying 153=some (Go.TypeDesc.int Go.IntKind.u64):=(underlying_x 153).trans Tryz.underlying153
theorem underlying154 : prog.underlying 154 = some (Go.TypeDesc.struct #[{ name := "_", type := 151, offset := 0, embedded := false, tag := "", pkgPath := "sync/atomic", byteOffset := 0 }, { name := "_", type := 152, offset := 0, embedded := false, tag := "", pkgPath := "sync/atomic", byteOffset := 0 }, { name := "v", type := 153, offset := 0, embedded := false, tag := "", pkgPath := "sync/atomic", byteOffset := 0 }]) := (underlying_x 154).trans Tryz.underlying154
theorem underlying155 : prog.underlying 155 = some (Go.TypeDesc.struct #[{ name := "_", type := 151, offset := 0, embedded := false, tag := "", pkgPath := "sync/atomic", byteOffset := 0 }, { name := "_", type := 152, offset := 0, embedded := false, tag := "", pkgPath := "sync/atomic", byteOffset := 0 }, { name := "v", type := 153, offset := 0, embedded := false, tag := "", pkgPath := "sync/atomic", byteOffset := 0 }]) := (underlying_x 155).trans Tryz.underlying155
theorem underlying156:prog.underlying 156=some (Go.TypeDesc.int Go.IntKind.u32):=(underlying_x 156).trans Tryz.underlying156
theorem underlying157 : prog.underlying 157 = some (Go.TypeDesc.struct #[{ name := "noCopy", type := 150, offset := 0, embedded := false, tag := "", pkgPath := "sync", byteOffset := 0 }, { name := "state", type := 155, offset := 0, embedded := false, tag := "", pkgPath := "sync", byteOffset := 0 }, { name := "sema", type := 156, offset := 1, embedded := false, tag := "", pkgPath := "sync", byteOffset := 8 }]) := (underlying_x 157).trans Tryz.underlying157
theorem underlying158 : prog.underlying 158 = some (Go.TypeDesc.struct #[{ name := "noCopy", type := 150, offset := 0, embedded := false, tag := "", pkgPath := "sync", byteOffset := 0 }, { name := "state", type := 155, offset := 0, embedded := false, tag := "", pkgPath := "sync", byteOffset := 0 }, { name := "sema", type := 156, offset := 1, embedded := false, tag := "", pkgPath := "sync", byteOffset := 8 }]) := (underlying_x 158).trans Tryz.underlying158
theorem underlying159:prog.underlying 159=some (Go.TypeDesc.func #[3] #[] false):=(underlying_x 159).trans Tryz.underlying159
theorem underlying160:prog.underlying 160=some (Go.TypeDesc.func #[103,3] #[71] false):=(underlying_x 160).trans Tryz.underlying160
theorem underlying161:prog.underlying 161=some (Go.TypeDesc.func #[45,162] #[103] false):=(underlying_x 161).trans Tryz.underlying161
theorem underlying162:prog.underlying 162=some (Go.TypeDesc.slice 139):=(underlying_x 162).trans Tryz.underlying162
theorem underlying163:prog.underlying 163=some (Go.TypeDesc.func #[45,46] #[162] true):=(underlying_x 163).trans Tryz.underlying163
theorem underlying164:prog.underlying 164=some (Go.TypeDesc.func #[38] #[3] true):=(underlying_x 164).trans Tryz.underlying164
theorem underlying165:prog.underlying 165=some (Go.TypeDesc.func #[127] #[4] false):=(underlying_x 165).trans Tryz.underlying165
theorem underlying166:prog.underlying 166=some (Go.TypeDesc.func #[108,108] #[3] false):=(underlying_x 166).trans Tryz.underlying166
theorem underlying167:prog.underlying 167=some (Go.TypeDesc.func #[133,133,133] #[3] false):=(underlying_x 167).trans Tryz.underlying167
theorem underlying168:prog.underlying 168=some (Go.TypeDesc.func #[169,169,169] #[3] false):=(underlying_x 168).trans Tryz.underlying168
theorem underlying169:prog.underlying 169=some (Go.TypeDesc.array 3 3):=(underlying_x 169).trans Tryz.underlying169
theorem underlying170:prog.underlying 170=some (Go.TypeDesc.func #[3,3,3,3] #[66,4] false):=(underlying_x 170).trans Tryz.underlying170
theorem underlying171:prog.underlying 171=some (Go.TypeDesc.func #[142] #[108] false):=(underlying_x 171).trans Tryz.underlying171
theorem underlying172:prog.underlying 172=some (Go.TypeDesc.func #[108,108] #[4] false):=(underlying_x 172).trans Tryz.underlying172
theorem underlying173:prog.underlying 173=some (Go.TypeDesc.pointer 158):=(underlying_x 173).trans Tryz.underlying173
theorem underlying174:prog.underlying 174=some (Go.TypeDesc.func #[175] #[] false):=(underlying_x 174).trans Tryz.underlying174
theorem underlying175:prog.underlying 175=some Go.TypeDesc.unsafePointer:=(underlying_x 175).trans Tryz.underlying175
theorem underlying176:prog.underlying 176=some (Go.TypeDesc.func #[] #[4] false):=(underlying_x 176).trans Tryz.underlying176
theorem underlying177:prog.underlying 177=some (Go.TypeDesc.int Go.IntKind.i64):=(underlying_x 177).trans Tryz.underlying177
theorem underlying178:prog.underlying 178=some (Go.TypeDesc.func #[173] #[177] false):=(underlying_x 178).trans Tryz.underlying178
theorem underlying179:prog.underlying 179=some (Go.TypeDesc.func #[9] #[] false):=(underlying_x 179).trans Tryz.underlying179
theorem underlying180:prog.underlying 180=some (Go.TypeDesc.func #[153] #[153] false):=(underlying_x 180).trans Tryz.underlying180
theorem underlying181:prog.underlying 181=some (Go.TypeDesc.pointer 156):=(underlying_x 181).trans Tryz.underlying181
theorem underlying182:prog.underlying 182=some (Go.TypeDesc.func #[] #[153] false):=(underlying_x 182).trans Tryz.underlying182
theorem underlying183:prog.underlying 183=some (Go.TypeDesc.func #[153] #[] false):=(underlying_x 183).trans Tryz.underlying183
theorem underlying184:prog.underlying 184=some (Go.TypeDesc.func #[173] #[] false):=(underlying_x 184).trans Tryz.underlying184
theorem underlying185:prog.underlying 185=some (Go.TypeDesc.func #[181,4,3] #[] false):=(underlying_x 185).trans Tryz.underlying185
theorem underlying186:prog.underlying 186=some (Go.TypeDesc.func #[66,103] #[4] false):=(underlying_x 186).trans Tryz.underlying186
theorem underlying187:prog.underlying 187=some (Go.TypeDesc.func #[173] #[4] false):=(underlying_x 187).trans Tryz.underlying187
theorem underlying188:prog.underlying 188=some (Go.TypeDesc.func #[153,153] #[4] false):=(underlying_x 188).trans Tryz.underlying188
theorem underlying189:prog.underlying 189=some (Go.TypeDesc.func #[181,4] #[] false):=(underlying_x 189).trans Tryz.underlying189
theorem underlying190:prog.underlying 190=some (Go.TypeDesc.func #[71,66] #[3] false):=(underlying_x 190).trans Tryz.underlying190
theorem underlying191:prog.underlying 191=some (Go.TypeDesc.func #[3] #[153] false):=(underlying_x 191).trans Tryz.underlying191
theorem underlying192:prog.underlying 192=some (Go.TypeDesc.func #[108] #[4] false):=(underlying_x 192).trans Tryz.underlying192
theorem underlying193:prog.underlying 193=some (Go.TypeDesc.func #[108,108,108] #[3] false):=(underlying_x 193).trans Tryz.underlying193
theorem underlying194:prog.underlying 194=some (Go.TypeDesc.func #[133] #[169] false):=(underlying_x 194).trans Tryz.underlying194
theorem underlying195:prog.underlying 195=some (Go.TypeDesc.func #[125,192] #[4] false):=(underlying_x 195).trans Tryz.underlying195
theorem underlying196:prog.underlying 196=some (Go.TypeDesc.pointer 155):=(underlying_x 196).trans Tryz.underlying196
theorem underlying197:prog.underlying 197=some (Go.TypeDesc.func #[198,153] #[153] false):=(underlying_x 197).trans Tryz.underlying197
theorem underlying198:prog.underlying 198=some (Go.TypeDesc.pointer 153):=(underlying_x 198).trans Tryz.underlying198
theorem underlying199:prog.underlying 199=some (Go.TypeDesc.func #[198] #[153] false):=(underlying_x 199).trans Tryz.underlying199
theorem underlying200:prog.underlying 200=some (Go.TypeDesc.func #[198,153] #[] false):=(underlying_x 200).trans Tryz.underlying200
theorem underlying201:prog.underlying 201=some (Go.TypeDesc.array 3 3):=(underlying_x 201).trans Tryz.underlying201
theorem underlying202:prog.underlying 202=some (Go.TypeDesc.tuple #[201,201,201,201]):=(underlying_x 202).trans Tryz.underlying202
theorem underlying203:prog.underlying 203=some (Go.TypeDesc.func #[133,133,133] #[201,201,201,201] false):=(underlying_x 203).trans Tryz.underlying203
theorem underlying204:prog.underlying 204=some (Go.TypeDesc.func #[201,201,201] #[3] false):=(underlying_x 204).trans Tryz.underlying204
theorem underlying205:prog.underlying 205=some (Go.TypeDesc.func #[198,153,153] #[4] false):=(underlying_x 205).trans Tryz.underlying205
theorem underlying206:prog.underlying 206=some (Go.TypeDesc.func #[127,166] #[3] false):=(underlying_x 206).trans Tryz.underlying206
theorem underlying207:prog.underlying 207=some (Go.TypeDesc.func #[125,192] #[3] false):=(underlying_x 207).trans Tryz.underlying207
theorem underlying208:prog.underlying 208=some (Go.TypeDesc.tuple #[3,3]):=(underlying_x 208).trans Tryz.underlying208
theorem underlying209:prog.underlying 209=some (Go.TypeDesc.func #[66] #[3,3] false):=(underlying_x 209).trans Tryz.underlying209
theorem underlying210:prog.underlying 210=some (Go.TypeDesc.func #[] #[9] false):=(underlying_x 210).trans Tryz.underlying210
theorem underlying211 : prog.underlying 211 = some (Go.TypeDesc.struct #[{ name := "_interface", type := 17, offset := 0, embedded := false, tag := "", pkgPath := "runtime", byteOffset := 0 }, { name := "concrete", type := 17, offset := 1, embedded := false, tag := "", pkgPath := "runtime", byteOffset := 8 }, { name := "asserted", type := 17, offset := 2, embedded := false, tag := "", pkgPath := "runtime", byteOffset := 16 }, { name := "missingMethod", type := 9, offset := 3, embedded := false, tag := "", pkgPath := "runtime", byteOffset := 24 }]) := (underlying_x 211).trans Tryz.underlying211
theorem underlying212 : prog.underlying 212 = some (Go.TypeDesc.struct #[{ name := "_interface", type := 17, offset := 0, embedded := false, tag := "", pkgPath := "runtime", byteOffset := 0 }, { name := "concrete", type := 17, offset := 1, embedded := false, tag := "", pkgPath := "runtime", byteOffset := 8 }, { name := "asserted", type := 17, offset := 2, embedded := false, tag := "", pkgPath := "runtime", byteOffset := 16 }, { name := "missingMethod", type := 9, offset := 3, embedded := false, tag := "", pkgPath := "runtime", byteOffset := 24 }]) := (underlying_x 212).trans Tryz.underlying212
theorem underlying213:prog.underlying 213=some (Go.TypeDesc.array 0 16):=(underlying_x 213).trans Tryz.underlying213
theorem underlying214 : prog.underlying 214 = some (Go.TypeDesc.struct #[{ name := "_", type := 213, offset := 0, embedded := false, tag := "", pkgPath := "runtime", byteOffset := 0 }]) := (underlying_x 214).trans Tryz.underlying214
theorem underlying215 : prog.underlying 215 = some (Go.TypeDesc.struct #[{ name := "_", type := 213, offset := 0, embedded := false, tag := "", pkgPath := "runtime", byteOffset := 0 }]) := (underlying_x 215).trans Tryz.underlying215
theorem underlying216:prog.underlying 216=some (Go.TypeDesc.func #[] #[3] false):=(underlying_x 216).trans Tryz.underlying216
theorem underlying217:prog.underlying 217=some (Go.TypeDesc.int Go.IntKind.u8):=(underlying_x 217).trans Tryz.underlying217
theorem underlying218:prog.underlying 218=some (Go.TypeDesc.int Go.IntKind.u8):=(underlying_x 218).trans Tryz.underlying218
theorem underlying219:prog.underlying 219=some (Go.TypeDesc.func #[175,175] #[4] false):=(underlying_x 219).trans Tryz.underlying219
theorem underlying220:prog.underlying 220=some (Go.TypeDesc.pointer 5):=(underlying_x 220).trans Tryz.underlying220
theorem underlying221:prog.underlying 221=some (Go.TypeDesc.int Go.IntKind.i32):=(underlying_x 221).trans Tryz.underlying221
theorem underlying222:prog.underlying 222=some (Go.TypeDesc.int Go.IntKind.i32):=(underlying_x 222).trans Tryz.underlying222
theorem underlying223 : prog.underlying 223 = some (Go.TypeDesc.struct #[{ name := "Size_", type := 12, offset := 0, embedded := false, tag := "", pkgPath := "", byteOffset := 0 }, { name := "PtrBytes", type := 12, offset := 1, embedded := false, tag := "", pkgPath := "", byteOffset := 8 }, { name := "Hash", type := 156, offset := 2, embedded := false, tag := "", pkgPath := "", byteOffset := 16 }, { name := "TFlag", type := 217, offset := 3, embedded := false, tag := "", pkgPath := "", byteOffset := 20 }, { name := "Align_", type := 5, offset := 4, embedded := false, tag := "", pkgPath := "", byteOffset := 21 }, { name := "FieldAlign_", type := 5, offset := 5, embedded := false, tag := "", pkgPath := "", byteOffset := 22 }, { name := "Kind_", type := 218, offset := 6, embedded := false, tag := "", pkgPath := "", byteOffset := 23 }, { name := "Equal", type := 219, offset := 7, embedded := false, tag := "", pkgPath := "", byteOffset := 24 }, { name := "GCData", type := 220, offset := 8, embedded := false, tag := "", pkgPath := "", byteOffset := 32 }, { name := "Str", type := 221, offset := 9, embedded := false, tag := "", pkgPath := "", byteOffset := 40 }, { name := "PtrToThis", type := 222, offset := 10, embedded := false, tag := "", pkgPath := "", byteOffset := 44 }]) := (underlying_x 223).trans Tryz.underlying223
theorem underlying224 : prog.underlying 224 = some (Go.TypeDesc.struct #[{ name := "Size_", type := 12, offset := 0, embedded := false, tag := "", pkgPath := "", byteOffset := 0 }, { name := "PtrBytes", type := 12, offset := 1, embedded := false, tag := "", pkgPath := "", byteOffset := 8 }, { name := "Hash", type := 156, offset := 2, embedded := false, tag := "", pkgPath := "", byteOffset := 16 }, { name := "TFlag", type := 217, offset := 3, embedded := false, tag := "", pkgPath := "", byteOffset := 20 }, { name := "Align_", type := 5, offset := 4, embedded := false, tag := "", pkgPath := "", byteOffset := 21 }, { name := "FieldAlign_", type := 5, offset := 5, embedded := false, tag := "", pkgPath := "", byteOffset := 22 }, { name := "Kind_", type := 218, offset := 6, embedded := false, tag := "", pkgPath := "", byteOffset := 23 }, { name := "Equal", type := 219, offset := 7, embedded := false, tag := "", pkgPath := "", byteOffset := 24 }, { name := "GCData", type := 220, offset := 8, embedded := false, tag := "", pkgPath := "", byteOffset := 32 }, { name := "Str", type := 221, offset := 9, embedded := false, tag := "", pkgPath := "", byteOffset := 40 }, { name := "PtrToThis", type := 222, offset := 10, embedded := false, tag := "", pkgPath := "", byteOffset := 44 }]) := (underlying_x 224).trans Tryz.underlying224
theorem underlying225:prog.underlying 225=some (Go.TypeDesc.func #[] #[110,110] false):=(underlying_x 225).trans Tryz.underlying225
theorem call_x (k : Nat) (args : Array Value) (w : World) {fn : Func} (hf : prog.funcs[k]? = some fn) (hn : (fn.name == "runtime.NumGoroutine") = false := by kernel_rfl) (hb : fn.body.isNone = false := by kernel_rfl) : Sem.run prog (callFunc k args) w = .ok (.enter k args) w := by
 simp only [callFunc, program, Bind.bind, Sem.bind, Sem.run, hf, hn, hb, Bool.false_eq_true, if_false];rfl
@[simp] theorem call14 (args w):Sem.run prog (callFunc 14 args) w = .ok (.enter 14 args) w:=call_x 14 args w func14
@[simp] theorem call18 (args w):Sem.run prog (callFunc 18 args) w = .ok (.enter 18 args) w:=call_x 18 args w func18
@[simp] theorem call20 (args w):Sem.run prog (callFunc 20 args) w = .ok (.enter 20 args) w:=call_x 20 args w func20
@[simp] theorem call22 (args w):Sem.run prog (callFunc 22 args) w = .ok (.enter 22 args) w:=call_x 22 args w func22
@[simp] theorem call30 (args w):Sem.run prog (callFunc 30 args) w = .ok (.enter 30 args) w:=call_x 30 args w func30
@[simp] theorem call37 (args w):Sem.run prog (callFunc 37 args) w = .ok (.enter 37 args) w:=call_x 37 args w func37
@[simp] theorem call41 (args w):Sem.run prog (callFunc 41 args) w = .ok (.enter 41 args) w:=call_x 41 args w func41
@[simp] theorem call43 (args w):Sem.run prog (callFunc 43 args) w = .ok (.enter 43 args) w:=call_x 43 args w func43
@[simp] theorem call45 (args w):Sem.run prog (callFunc 45 args) w = .ok (.enter 45 args) w:=call_x 45 args w func45
@[simp] theorem call52 (args w):Sem.run prog (callFunc 52 args) w = .ok (.enter 52 args) w:=call_x 52 args w func52
@[simp] theorem call53 (args w):Sem.run prog (callFunc 53 args) w = .ok (.enter 53 args) w:=call_x 53 args w func53
@[simp] theorem call63 (args w):Sem.run prog (callFunc 63 args) w = .ok (.enter 63 args) w:=call_x 63 args w func63
@[simp] theorem call67 (args w):Sem.run prog (callFunc 67 args) w = .ok (.enter 67 args) w:=call_x 67 args w func67
@[simp] theorem call68 (args w):Sem.run prog (callFunc 68 args) w = .ok (.enter 68 args) w:=call_x 68 args w func68
@[simp] theorem call69 (args w):Sem.run prog (callFunc 69 args) w = .ok (.enter 69 args) w:=call_x 69 args w func69
@[simp] theorem call72 (args w):Sem.run prog (callFunc 72 args) w = .ok (.enter 72 args) w:=call_x 72 args w func72
@[simp] theorem call73 (args w):Sem.run prog (callFunc 73 args) w = .ok (.enter 73 args) w:=call_x 73 args w func73
@[simp] theorem call79 (args w):Sem.run prog (callFunc 79 args) w = .ok (.enter 79 args) w:=call_x 79 args w func79
@[simp] theorem call87 (args w):Sem.run prog (callFunc 87 args) w = .ok (.enter 87 args) w:=call_x 87 args w func87
@[simp] theorem call88 (args w):Sem.run prog (callFunc 88 args) w = .ok (.enter 88 args) w:=call_x 88 args w func88
@[simp] theorem call91 (args w):Sem.run prog (callFunc 91 args) w = .ok (.enter 91 args) w:=call_x 91 args w func91
@[simp] theorem call92 (args w):Sem.run prog (callFunc 92 args) w = .ok (.enter 92 args) w:=call_x 92 args w func92
@[simp] theorem call93 (args w):Sem.run prog (callFunc 93 args) w = .ok (.enter 93 args) w:=call_x 93 args w func93
@[simp] theorem call94 (args w):Sem.run prog (callFunc 94 args) w = .ok (.enter 94 args) w:=call_x 94 args w func94
@[simp] theorem call95 (args w):Sem.run prog (callFunc 95 args) w = .ok (.enter 95 args) w:=call_x 95 args w func95
@[simp] theorem call96 (args w):Sem.run prog (callFunc 96 args) w = .ok (.enter 96 args) w:=call_x 96 args w func96
@[simp] theorem call97 (args w):Sem.run prog (callFunc 97 args) w = .ok (.enter 97 args) w:=call_x 97 args w func97
@[simp] theorem call99 (args w):Sem.run prog (callFunc 99 args) w = .ok (.enter 99 args) w:=call_x 99 args w func99
@[simp] theorem call104 (args w):Sem.run prog (callFunc 104 args) w = .ok (.enter 104 args) w:=call_x 104 args w func104
@[simp] theorem call111 (args w):Sem.run prog (callFunc 111 args) w = .ok (.enter 111 args) w:=call_x 111 args w func111
@[simp] theorem call112 (args w):Sem.run prog (callFunc 112 args) w = .ok (.enter 112 args) w:=call_x 112 args w func112
@[simp] theorem call114 (args w):Sem.run prog (callFunc 114 args) w = .ok (.enter 114 args) w:=call_x 114 args w func114
@[simp] theorem call115 (args w):Sem.run prog (callFunc 115 args) w = .ok (.enter 115 args) w:=call_x 115 args w func115
@[simp] theorem call116 (args w):Sem.run prog (callFunc 116 args) w = .ok (.enter 116 args) w:=call_x 116 args w func116
@[simp] theorem call117 (args w):Sem.run prog (callFunc 117 args) w = .ok (.enter 117 args) w:=call_x 117 args w func117
@[simp] theorem call118 (args w):Sem.run prog (callFunc 118 args) w = .ok (.enter 118 args) w:=call_x 118 args w func118
@[simp] theorem call119 (args w):Sem.run prog (callFunc 119 args) w = .ok (.enter 119 args) w:=call_x 119 args w func119
@[simp] theorem call120 (args w):Sem.run prog (callFunc 120 args) w = .ok (.enter 120 args) w:=call_x 120 args w func120
@[simp] theorem call121 (args w):Sem.run prog (callFunc 121 args) w = .ok (.enter 121 args) w:=call_x 121 args w func121
@[simp] theorem call124 (args w):Sem.run prog (callFunc 124 args) w = .ok (.enter 124 args) w:=call_x 124 args w func124
@[simp] theorem call146 (args w):Sem.run prog (callFunc 146 args) w = .ok (.enter 146 args) w:=call_x 146 args w func146
@[simp] theorem call147 (args w):Sem.run prog (callFunc 147 args) w = .ok (.enter 147 args) w:=call_x 147 args w func147
@[simp] theorem call149 (args w):Sem.run prog (callFunc 149 args) w = .ok (.enter 149 args) w:=call_x 149 args w func149
@[simp] theorem call150 (args w):Sem.run prog (callFunc 150 args) w = .ok (.enter 150 args) w:=call_x 150 args w func150
@[simp] theorem call151 (args w):Sem.run prog (callFunc 151 args) w = .ok (.enter 151 args) w:=call_x 151 args w func151
@[simp] theorem call152 (args w):Sem.run prog (callFunc 152 args) w = .ok (.enter 152 args) w:=call_x 152 args w func152
@[simp] theorem call153 (args w):Sem.run prog (callFunc 153 args) w = .ok (.enter 153 args) w:=call_x 153 args w func153
@[simp] theorem call154 (args w):Sem.run prog (callFunc 154 args) w = .ok (.enter 154 args) w:=call_x 154 args w func154
@[simp] theorem call155 (args w):Sem.run prog (callFunc 155 args) w = .ok (.enter 155 args) w:=call_x 155 args w func155
@[simp] theorem call156 (args w):Sem.run prog (callFunc 156 args) w = .ok (.enter 156 args) w:=call_x 156 args w func156
@[simp] theorem call167 (args w):Sem.run prog (callFunc 167 args) w = .ok (.enter 167 args) w:=call_x 167 args w func167
@[simp] theorem call168 (args w):Sem.run prog (callFunc 168 args) w = .ok (.enter 168 args) w:=call_x 168 args w func168
@[simp] theorem call169 (args w):Sem.run prog (callFunc 169 args) w = .ok (.enter 169 args) w:=call_x 169 args w func169
@[simp] theorem call170 (args w):Sem.run prog (callFunc 170 args) w = .ok (.enter 170 args) w:=call_x 170 args w func170
@[simp] theorem call172 (args w):Sem.run prog (callFunc 172 args) w = .ok (.enter 172 args) w:=call_x 172 args w func172
end Go.Proofs.Tryzx
end
