/-
  Texts that the law stands on, part 15.
-/
import Derived.Test.YtpblihmhpalkfaaGreatJ1
import Derived.Test.YtpblihmhpalkfaaGreatJ14
import Derived.Test.YtpblihmhpalkfaaGreatJ10
import Derived.Test.YtpblihmhpalkfaaGreatProg
import Derived.KernelRfl
import Derived.WalkKit
import Derived.Outline
import Derived.Deep.RegionHeld3
import Derived.Deep.QuietTactic
import Derived.BigQuiet
import Derived.BigRegion
import Derived.IntWalk
set_option maxRecDepth 100000
set_option linter.unusedVariables false
set_option linter.unusedSimpArgs false
section
namespace Go.Proofs.Tryzx
def rd3 : Code := (.region 7 #[{ dst := some 9, op := .call { callee := .value (.func 69), args := #[.tmp 0], argTypes := #[72] }, type := 34, pos := "", after := #[], guard := none }] false)
def rd4 : Code := (.region 8 #[{ dst := some 10, op := .call { callee := .builtin .append, args := #[.const (.slice none 0 0), .tmp 9], argTypes := #[34, 34] }, type := 34, pos := "", after := #[], guard := none }] false)
def bodyX : Code := .seq (.seq (.region 0 #[{ dst := some 1, op := .move (.const (.int .i64 0)), type := 3, pos := "", after := #[], guard := none }, { dst := some 2, op := .call { callee := .builtin .len, args := #[.tmp 0], argTypes := #[72] }, type := 3, pos := "", after := #[], guard := none }, { dst := some 3, op := .binOp .lss 3 (.tmp 2) (.const (.int .i64 1048577)) 3, type := 4, pos := "", after := #[{ on := 1, ground := .data }], guard := none }] false) (.seq (.cond (.tmp 3) .skip (.exit 9)) (.seq (.block 0 (.loop (.seq (.region 1 #[{ dst := some 4, op := .binOp .lss 3 (.tmp 1) (.tmp 2) 3, type := 4, pos := "", after := #[], guard := none }] false) (.seq (.cond (.tmp 4) .skip (.exit 0)) (.seq (.region 2 #[{ dst := some 5, op := .indexAddr 72 (.tmp 0) (.tmp 1), type := 0, pos := "", after := #[], guard := none }, { dst := some 6, op := .fieldAddr 130 (.tmp 5) 0, type := 0, pos := "", after := #[{ on := 0, ground := .data }], guard := none }, { dst := some 7, op := .load 3 (.tmp 6), type := 3, pos := "", after := #[{ on := 1, ground := .data }], guard := none }, { dst := some 8, op := .binOp .mul 3 (.tmp 7) (.const (.int .i64 1)) 3, type := 3, pos := "", after := #[{ on := 2, ground := .data }], guard := none }] false) (.seq (.region 3 #[{ dst := some 5, op := .indexAddr 72 (.tmp 0) (.tmp 1), type := 0, pos := "", after := #[], guard := none }, { dst := some 6, op := .fieldAddr 130 (.tmp 5) 1, type := 0, pos := "", after := #[{ on := 0, ground := .data }], guard := none }, { dst := some 7, op := .load 3 (.tmp 6), type := 3, pos := "", after := #[{ on := 1, ground := .data }], guard := none }, { dst := some 8, op := .binOp .mul 3 (.tmp 7) (.const (.int .i64 1)) 3, type := 3, pos := "", after := #[{ on := 2, ground := .data }], guard := none }] false) (.seq (.region 4 #[{ dst := some 5, op := .indexAddr 72 (.tmp 0) (.tmp 1), type := 0, pos := "", after := #[], guard := none }, { dst := some 6, op := .fieldAddr 130 (.tmp 5) 2, type := 0, pos := "", after := #[{ on := 0, ground := .data }], guard := none }, { dst := some 7, op := .load 3 (.tmp 6), type := 3, pos := "", after := #[{ on := 1, ground := .data }], guard := none }, { dst := some 8, op := .binOp .mul 3 (.tmp 7) (.const (.int .i64 1)) 3, type := 3, pos := "", after := #[{ on := 2, ground := .data }], guard := none }] false) (.seq (.region 5 #[{ dst := some 5, op := .indexAddr 72 (.tmp 0) (.tmp 1), type := 0, pos := "", after := #[], guard := none }, { dst := some 6, op := .fieldAddr 130 (.tmp 5) 3, type := 0, pos := "", after := #[{ on := 0, ground := .data }], guard := none }, { dst := some 7, op := .load 3 (.tmp 6), type := 3, pos := "", after := #[{ on := 1, ground := .data }], guard := none }, { dst := some 8, op := .binOp .mul 3 (.tmp 7) (.const (.int .i64 1)) 3, type := 3, pos := "", after := #[{ on := 2, ground := .data }], guard := none }] false) (.region 6 #[{ dst := some 1, op := .binOp .add 3 (.tmp 1) (.const (.int .i64 1)) 3, type := 3, pos := "", after := #[], guard := none }] false))))))))) (.seq (.region 9 #[{ dst := some 11, op := .binOp .eql 3 (.tmp 2) (.const (.int .i64 0)) 3, type := 4, pos := "", after := #[], guard := none }] false) (.cond (.tmp 11) (.seq (.region 10 #[{ dst := some 12, op := .binOp .eql 72 (.tmp 0) (.const (.slice none 0 0)) 72, type := 4, pos := "", after := #[], guard := none }] false) (.cond (.tmp 12) .skip (.exit 9))) .skip))))) (.seq (.region 7 #[{ dst := some 9, op := .call { callee := .value (.func 69), args := #[.tmp 0], argTypes := #[72] }, type := 34, pos := "", after := #[], guard := none }] false) (.seq (.region 8 #[{ dst := some 10, op := .call { callee := .builtin .append, args := #[.const (.slice none 0 0), .tmp 9], argTypes := #[34, 34] }, type := 34, pos := "", after := #[], guard := none }] false) .ret))
noncomputable def f47 : Func := { name := Tryz.f47.name, origin := "", params := #[72], resultTypes := #[34], nfree := 0, ntmps := 13, results := #[.tmp 10], body := some bodyX, norace := false, tmpNames := #[] }
noncomputable def funcs:Array Func :=
(([Tryz.f0,Tryz.f1,Tryz.f2,Tryz.f3,Tryz.f4,Tryz.f5,
      Tryz.f6,Tryz.f7,Tryz.f8,Tryz.f9,Tryz.f10,
      Tryz.f11,Tryz.f12,Tryz.f13,Tryz.f14,Tryz.f15,
      Tryz.f16,Tryz.f17,Tryz.f18,Tryz.f19,Tryz.f20,
      Tryz.f21,Tryz.f22,Tryz.f23,Tryz.f24,Tryz.f25,
      Tryz.f26,Tryz.f27,Tryz.f28,Tryz.f29,Tryz.f30,
      Tryz.f31,Tryz.f32,Tryz.f33,Tryz.f34,Tryz.f35,
      Tryz.f36,Tryz.f37,Tryz.f38,Tryz.f39,Tryz.f40,
      Tryz.f41,Tryz.f42,Tryz.f43,Tryz.f44,Tryz.f45,
      Tryz.f46,f47].append
    [Tryz.f48,Tryz.f49,Tryz.f50,Tryz.f51,Tryz.f52,
     Tryz.f53,Tryz.f54,Tryz.f55,Tryz.f56,Tryz.f57,
     Tryz.f58,Tryz.f59,Tryz.f60,Tryz.f61,Tryz.f62,
     Tryz.f63,Tryz.f64,Tryz.f65,Tryz.f66,Tryz.f67,
     Tryz.f68,Tryz.f69,Tryz.f70,Tryz.f71,Tryz.f72,
     Tryz.f73,Tryz.f74,Tryz.f75,Tryz.f76,Tryz.f77,
     Tryz.f78,Tryz.f79,Tryz.f80,Tryz.f81,Tryz.f82,
     Tryz.f83,Tryz.f84,Tryz.f85,Tryz.f86,Tryz.f87,
     Tryz.f88,Tryz.f89,Tryz.f90,Tryz.f91,Tryz.f92,
     Tryz.f93,Tryz.f94,Tryz.f95]).append
  ([Tryz.f96,Tryz.f97,Tryz.f98,Tryz.f99,Tryz.f100,
     Tryz.f101,Tryz.f102,Tryz.f103,Tryz.f104,Tryz.f105,
     Tryz.f106,Tryz.f107,Tryz.f108,Tryz.f109,Tryz.f110,
     Tryz.f111,Tryz.f112,Tryz.f113,Tryz.f114,Tryz.f115,
     Tryz.f116,Tryz.f117,Tryz.f118,Tryz.f119,Tryz.f120,
     Tryz.f121,Tryz.f122,Tryz.f123,Tryz.f124,Tryz.f125,
     Tryz.f126,Tryz.f127,Tryz.f128,Tryz.f129,Tryz.f130,
     Tryz.f131,Tryz.f132,Tryz.f133,Tryz.f134,Tryz.f135,
     Tryz.f136,Tryz.f137,Tryz.f138,Tryz.f139,Tryz.f140,
     Tryz.f141,Tryz.f142,Tryz.f143].append
   [Tryz.f144,Tryz.f145,Tryz.f146,Tryz.f147,Tryz.f148,
    Tryz.f149,Tryz.f150,Tryz.f151,Tryz.f152,Tryz.f153,
    Tryz.f154,Tryz.f155,Tryz.f156,Tryz.f157,Tryz.f158,
    Tryz.f159,Tryz.f160,Tryz.f161,Tryz.f162,Tryz.f163,
    Tryz.f164,Tryz.f165,Tryz.f166,Tryz.f167,Tryz.f168,
    Tryz.f169,Tryz.f170,Tryz.f171,Tryz.f172,Tryz.f173,
    Tryz.f174,Tryz.f175,Tryz.f176,Tryz.f177,Tryz.f178,
    Tryz.f179,Tryz.f180,Tryz.f181,Tryz.f182,Tryz.f183,
    Tryz.f184,Tryz.f185,Tryz.f186,Tryz.f187,Tryz.f188,
    Tryz.f189,Tryz.f190,Tryz.f191])).toArray
noncomputable def prog:Program := { toTables:=Tryz.progTables,funcs:=funcs }
theorem under_tb {p q:Program} (h:p.toTables=q.toTables) (t:TypeId):p.underlying t=q.underlying t:=by
 cases p; cases q; simp only at h; subst h; rfl
theorem depth_tb {p q:Program} (h:p.toTables=q.toTables):p.depth=q.depth:=by
 cases p; cases q; simp only at h; subst h; rfl
theorem tables_eq:prog.toTables=Tryz.prog.toTables:=rfl
@[simp] theorem info_x (t:TypeId):prog.info? t=Tryz.prog.info? t:=rfl
@[simp] theorem underlying_x (t:TypeId):prog.underlying t=Tryz.prog.underlying t:=under_tb tables_eq t
@[simp] theorem depth_x:prog.depth=Tryz.prog.depth:=depth_tb tables_eq
@[simp] theorem run_underlying_x (t:TypeId) (w:World):Sem.run prog (underlying t) w=Sem.run Tryz.prog (underlying t) w:=by
 simp only [underlying,program,Bind.bind,Sem.bind,Sem.run,underlying_x];cases Tryz.prog.underlying t <;> rfl
@[simp] theorem sizeOf_x (t:TypeId) (w:World):Sem.run prog (sizeOf t) w=Sem.run Tryz.prog (sizeOf t) w:=by
 simp only [sizeOf,typeInfo,program,Bind.bind,Sem.bind,Sem.run,info_x];cases Tryz.prog.info? t <;> rfl
@[simp] theorem isAgg_x (t:TypeId) (w:World):Sem.run prog (isAgg t) w=Sem.run Tryz.prog (isAgg t) w:=by
 simp only [isAgg,underlying,program,Bind.bind,Sem.bind,Sem.run,underlying_x];cases Tryz.prog.underlying t with
 | none=>rfl
 | some d=>cases d <;> rfl
@[simp] theorem zeroValue_x (t:TypeId) (w:World):Sem.run prog (zeroValue t) w=Sem.run Tryz.prog (zeroValue t) w:=by
 simp only [zeroValue,typeInfo,program,Bind.bind,Sem.bind,Sem.run,info_x];cases Tryz.prog.info? t with
 | none=>rfl
 | some i=>cases h:i.zero <;> simp [h,Sem.bind,Sem.run,pure,unsupported]
@[simp] theorem eqGuardType_x:∀ (d:Nat) (t:TypeId),prog.eqGuardType d t=Tryz.prog.eqGuardType d t
 | 0,_=>rfl
 | d+1,t=>by
  unfold Program.eqGuardType;simp only [underlying_x,eqGuardType_x d]
theorem func7:prog.funcs[7]?=some Tryz.f7:=by kernel_rfl
theorem func43:prog.funcs[43]?=some Tryz.f43:=by kernel_rfl
theorem func47:prog.funcs[47]?=some f47:=by kernel_rfl
theorem func49:prog.funcs[49]?=some Tryz.f49:=by kernel_rfl
theorem func62:prog.funcs[62]?=some Tryz.f62:=by kernel_rfl
theorem func69:prog.funcs[69]?=some Tryz.f69:=by kernel_rfl
theorem func72:prog.funcs[72]?=some Tryz.f72:=by kernel_rfl
theorem func76:prog.funcs[76]?=some Tryz.f76:=by kernel_rfl
theorem func79:prog.funcs[79]?=some Tryz.f79:=by kernel_rfl
theorem func81:prog.funcs[81]?=some Tryz.f81:=by kernel_rfl
theorem func82:prog.funcs[82]?=some Tryz.f82:=by kernel_rfl
theorem func90:prog.funcs[90]?=some Tryz.f90:=by kernel_rfl
theorem func91:prog.funcs[91]?=some Tryz.f91:=by kernel_rfl
theorem func92:prog.funcs[92]?=some Tryz.f92:=by kernel_rfl
theorem func95:prog.funcs[95]?=some Tryz.f95:=by kernel_rfl
theorem func96:prog.funcs[96]?=some Tryz.f96:=by kernel_rfl
theorem func97:prog.funcs[97]?=some Tryz.f97:=by kernel_rfl
theorem func100:prog.funcs[100]?=some Tryz.f100:=by kernel_rfl
theorem func101:prog.funcs[101]?=some Tryz.f101:=by kernel_rfl
theorem func102:prog.funcs[102]?=some Tryz.f102:=by kernel_rfl
theorem func103:prog.funcs[103]?=some Tryz.f103:=by kernel_rfl
theorem func106:prog.funcs[106]?=some Tryz.f106:=by kernel_rfl
theorem func107:prog.funcs[107]?=some Tryz.f107:=by kernel_rfl
theorem func111:prog.funcs[111]?=some Tryz.f111:=by kernel_rfl
theorem func117:prog.funcs[117]?=some Tryz.f117:=by kernel_rfl
theorem func118:prog.funcs[118]?=some Tryz.f118:=by kernel_rfl
theorem func120:prog.funcs[120]?=some Tryz.f120:=by kernel_rfl
theorem func141:prog.funcs[141]?=some Tryz.f141:=by kernel_rfl
theorem func142:prog.funcs[142]?=some Tryz.f142:=by kernel_rfl
theorem func143:prog.funcs[143]?=some Tryz.f143:=by kernel_rfl
theorem func144:prog.funcs[144]?=some Tryz.f144:=by kernel_rfl
theorem func146:prog.funcs[146]?=some Tryz.f146:=by kernel_rfl
theorem func147:prog.funcs[147]?=some Tryz.f147:=by kernel_rfl
theorem func148:prog.funcs[148]?=some Tryz.f148:=by kernel_rfl
theorem func149:prog.funcs[149]?=some Tryz.f149:=by kernel_rfl
theorem func150:prog.funcs[150]?=some Tryz.f150:=by kernel_rfl
theorem func151:prog.funcs[151]?=some Tryz.f151:=by kernel_rfl
theorem func152:prog.funcs[152]?=some Tryz.f152:=by kernel_rfl
theorem func162:prog.funcs[162]?=some Tryz.f162:=by kernel_rfl
theorem func163:prog.funcs[163]?=some Tryz.f163:=by kernel_rfl
theorem func164:prog.funcs[164]?=some Tryz.f164:=by kernel_rfl
theorem func165:prog.funcs[165]?=some Tryz.f165:=by kernel_rfl
theorem func166:prog.funcs[166]?=some Tryz.f166:=by kernel_rfl
theorem func167:prog.funcs[167]?=some Tryz.f167:=by kernel_rfl
theorem func168:prog.funcs[168]?=some Tryz.f168:=by kernel_rfl
theorem func169:prog.funcs[169]?=some Tryz.f169:=by kernel_rfl
theorem func170:prog.funcs[170]?=some Tryz.f170:=by kernel_rfl
theorem func171:prog.funcs[171]?=some Tryz.f171:=by kernel_rfl
theorem func172:prog.funcs[172]?=some Tryz.f172:=by kernel_rfl
theorem func173:prog.funcs[173]?=some Tryz.f173:=by kernel_rfl
theorem ntmps47:f47.ntmps=13:=rfl
attribute [simp] func7 func43 func47 func49 func62 func69 func72 func76 func79 func81 func82 func90 func91 func92 func95 func96 func97 func100 func101 func102 func103 func106 func107 func111 func117 func118 func120 func141 func142 func143 func144 func146 func147 func148 func149 func150 func151 func152 func162 func163 func164 func165 func166 func167 func168 func169 func170 func171 func172 func173 ntmps47
@[simp] theorem stoodInHeld31:prog.stoodInHeld 31=false:=by kernel_rfl
@[simp] theorem stoodInHeld130:prog.stoodInHeld 130=false:=by kernel_rfl
theorem underlying3:prog.underlying 3=some (Go.TypeDesc.int Go.IntKind.i64):=(underlying_x 3).trans Tryz.underlying3
theorem underlying4:prog.underlying 4=some Go.TypeDesc.bool:=(underlying_x 4).trans Tryz.underlying4
theorem underlying5:prog.underlying 5=some (Go.TypeDesc.int Go.IntKind.u8):=(underlying_x 5).trans Tryz.underlying5
theorem underlying22:prog.underlying 22=some (Go.TypeDesc.slice 5):=(underlying_x 22).trans Tryz.underlying22
theorem underlying24:prog.underlying 24=some (Go.TypeDesc.slice 45):=(underlying_x 24).trans Tryz.underlying24
theorem underlying27:prog.underlying 27=some (Go.TypeDesc.slice 154):=(underlying_x 27).trans Tryz.underlying27
theorem underlying34:prog.underlying 34=some (Go.TypeDesc.slice 31):=(underlying_x 34).trans Tryz.underlying34
theorem underlying48:prog.underlying 48=some (Go.TypeDesc.slice 3):=(underlying_x 48).trans Tryz.underlying48
theorem underlying56:prog.underlying 56=some (Go.TypeDesc.slice 60):=(underlying_x 56).trans Tryz.underlying56
theorem underlying72:prog.underlying 72=some (Go.TypeDesc.slice 130):=(underlying_x 72).trans Tryz.underlying72
theorem underlying74:prog.underlying 74=some (Go.TypeDesc.slice 76):=(underlying_x 74).trans Tryz.underlying74
theorem underlying86:prog.underlying 86=some (Go.TypeDesc.map 89 3):=(underlying_x 86).trans Tryz.underlying86
theorem underlying89:prog.underlying 89=some (Go.TypeDesc.int Go.IntKind.u64):=(underlying_x 89).trans Tryz.underlying89
theorem underlying122:prog.underlying 122=some (Go.TypeDesc.slice 143):=(underlying_x 122).trans Tryz.underlying122
theorem underlying124:prog.underlying 124=some (Go.TypeDesc.slice 43):=(underlying_x 124).trans Tryz.underlying124
theorem underlying130 : prog.underlying 130 = some (Go.TypeDesc.struct #[{ name := "A", type := 3, offset := 0, embedded := false, tag := "", pkgPath := "", byteOffset := 0 }, { name := "B", type := 3, offset := 1, embedded := false, tag := "", pkgPath := "", byteOffset := 8 }, { name := "C", type := 3, offset := 2, embedded := false, tag := "", pkgPath := "", byteOffset := 16 }, { name := "D", type := 3, offset := 3, embedded := false, tag := "", pkgPath := "", byteOffset := 24 }]) := (underlying_x 130).trans Tryz.underlying130
theorem underlying136:prog.underlying 136=some (Go.TypeDesc.slice 4):=(underlying_x 136).trans Tryz.underlying136
theorem underlying146:prog.underlying 146=some (Go.TypeDesc.map 3 4):=(underlying_x 146).trans Tryz.underlying146
theorem underlying176:prog.underlying 176=some (Go.TypeDesc.map 3 143):=(underlying_x 176).trans Tryz.underlying176
theorem call_x (k : Nat) (args : Array Value) (w : World) {fn : Func} (hf : prog.funcs[k]? = some fn) (hn : (fn.name == "runtime.NumGoroutine") = false := by kernel_rfl) (hb : fn.body.isNone = false := by kernel_rfl) : Sem.run prog (callFunc k args) w = .ok (.enter k args) w := by
 simp only [callFunc, program, Bind.bind, Sem.bind, Sem.run, hf, hn, hb, Bool.false_eq_true, if_false];rfl
@[simp] theorem call7 (args w):Sem.run prog (callFunc 7 args) w = .ok (.enter 7 args) w:=call_x 7 args w func7
@[simp] theorem call43 (args w):Sem.run prog (callFunc 43 args) w = .ok (.enter 43 args) w:=call_x 43 args w func43
@[simp] theorem call47 (args w):Sem.run prog (callFunc 47 args) w = .ok (.enter 47 args) w:=call_x 47 args w func47
@[simp] theorem call49 (args w):Sem.run prog (callFunc 49 args) w = .ok (.enter 49 args) w:=call_x 49 args w func49
@[simp] theorem call62 (args w):Sem.run prog (callFunc 62 args) w = .ok (.enter 62 args) w:=call_x 62 args w func62
@[simp] theorem call69 (args w):Sem.run prog (callFunc 69 args) w = .ok (.enter 69 args) w:=call_x 69 args w func69
@[simp] theorem call72 (args w):Sem.run prog (callFunc 72 args) w = .ok (.enter 72 args) w:=call_x 72 args w func72
@[simp] theorem call76 (args w):Sem.run prog (callFunc 76 args) w = .ok (.enter 76 args) w:=call_x 76 args w func76
@[simp] theorem call79 (args w):Sem.run prog (callFunc 79 args) w = .ok (.enter 79 args) w:=call_x 79 args w func79
@[simp] theorem call81 (args w):Sem.run prog (callFunc 81 args) w = .ok (.enter 81 args) w:=call_x 81 args w func81
@[simp] theorem call82 (args w):Sem.run prog (callFunc 82 args) w = .ok (.enter 82 args) w:=call_x 82 args w func82
@[simp] theorem call90 (args w):Sem.run prog (callFunc 90 args) w = .ok (.enter 90 args) w:=call_x 90 args w func90
@[simp] theorem call91 (args w):Sem.run prog (callFunc 91 args) w = .ok (.enter 91 args) w:=call_x 91 args w func91
@[simp] theorem call92 (args w):Sem.run prog (callFunc 92 args) w = .ok (.enter 92 args) w:=call_x 92 args w func92
@[simp] theorem call95 (args w):Sem.run prog (callFunc 95 args) w = .ok (.enter 95 args) w:=call_x 95 args w func95
@[simp] theorem call96 (args w):Sem.run prog (callFunc 96 args) w = .ok (.enter 96 args) w:=call_x 96 args w func96
@[simp] theorem call97 (args w):Sem.run prog (callFunc 97 args) w = .ok (.enter 97 args) w:=call_x 97 args w func97
@[simp] theorem call100 (args w):Sem.run prog (callFunc 100 args) w = .ok (.enter 100 args) w:=call_x 100 args w func100
@[simp] theorem call101 (args w):Sem.run prog (callFunc 101 args) w = .ok (.enter 101 args) w:=call_x 101 args w func101
@[simp] theorem call102 (args w):Sem.run prog (callFunc 102 args) w = .ok (.enter 102 args) w:=call_x 102 args w func102
@[simp] theorem call103 (args w):Sem.run prog (callFunc 103 args) w = .ok (.enter 103 args) w:=call_x 103 args w func103
@[simp] theorem call106 (args w):Sem.run prog (callFunc 106 args) w = .ok (.enter 106 args) w:=call_x 106 args w func106
@[simp] theorem call107 (args w):Sem.run prog (callFunc 107 args) w = .ok (.enter 107 args) w:=call_x 107 args w func107
@[simp] theorem call111 (args w):Sem.run prog (callFunc 111 args) w = .ok (.enter 111 args) w:=call_x 111 args w func111
@[simp] theorem call117 (args w):Sem.run prog (callFunc 117 args) w = .ok (.enter 117 args) w:=call_x 117 args w func117
@[simp] theorem call118 (args w):Sem.run prog (callFunc 118 args) w = .ok (.enter 118 args) w:=call_x 118 args w func118
@[simp] theorem call120 (args w):Sem.run prog (callFunc 120 args) w = .ok (.enter 120 args) w:=call_x 120 args w func120
@[simp] theorem call141 (args w):Sem.run prog (callFunc 141 args) w = .ok (.enter 141 args) w:=call_x 141 args w func141
@[simp] theorem call142 (args w):Sem.run prog (callFunc 142 args) w = .ok (.enter 142 args) w:=call_x 142 args w func142
@[simp] theorem call143 (args w):Sem.run prog (callFunc 143 args) w = .ok (.enter 143 args) w:=call_x 143 args w func143
@[simp] theorem call144 (args w):Sem.run prog (callFunc 144 args) w = .ok (.enter 144 args) w:=call_x 144 args w func144
@[simp] theorem call146 (args w):Sem.run prog (callFunc 146 args) w = .ok (.enter 146 args) w:=call_x 146 args w func146
@[simp] theorem call147 (args w):Sem.run prog (callFunc 147 args) w = .ok (.enter 147 args) w:=call_x 147 args w func147
@[simp] theorem call148 (args w):Sem.run prog (callFunc 148 args) w = .ok (.enter 148 args) w:=call_x 148 args w func148
@[simp] theorem call149 (args w):Sem.run prog (callFunc 149 args) w = .ok (.enter 149 args) w:=call_x 149 args w func149
@[simp] theorem call150 (args w):Sem.run prog (callFunc 150 args) w = .ok (.enter 150 args) w:=call_x 150 args w func150
@[simp] theorem call151 (args w):Sem.run prog (callFunc 151 args) w = .ok (.enter 151 args) w:=call_x 151 args w func151
@[simp] theorem call152 (args w):Sem.run prog (callFunc 152 args) w = .ok (.enter 152 args) w:=call_x 152 args w func152
@[simp] theorem call162 (args w):Sem.run prog (callFunc 162 args) w = .ok (.enter 162 args) w:=call_x 162 args w func162
@[simp] theorem call163 (args w):Sem.run prog (callFunc 163 args) w = .ok (.enter 163 args) w:=call_x 163 args w func163
@[simp] theorem call164 (args w):Sem.run prog (callFunc 164 args) w = .ok (.enter 164 args) w:=call_x 164 args w func164
@[simp] theorem call165 (args w):Sem.run prog (callFunc 165 args) w = .ok (.enter 165 args) w:=call_x 165 args w func165
@[simp] theorem call166 (args w):Sem.run prog (callFunc 166 args) w = .ok (.enter 166 args) w:=call_x 166 args w func166
@[simp] theorem call167 (args w):Sem.run prog (callFunc 167 args) w = .ok (.enter 167 args) w:=call_x 167 args w func167
@[simp] theorem call168 (args w):Sem.run prog (callFunc 168 args) w = .ok (.enter 168 args) w:=call_x 168 args w func168
@[simp] theorem call169 (args w):Sem.run prog (callFunc 169 args) w = .ok (.enter 169 args) w:=call_x 169 args w func169
@[simp] theorem call170 (args w):Sem.run prog (callFunc 170 args) w = .ok (.enter 170 args) w:=call_x 170 args w func170
@[simp] theorem call171 (args w):Sem.run prog (callFunc 171 args) w = .ok (.enter 171 args) w:=call_x 171 args w func171
@[simp] theorem call172 (args w):Sem.run prog (callFunc 172 args) w = .ok (.enter 172 args) w:=call_x 172 args w func172
@[simp] theorem call173 (args w):Sem.run prog (callFunc 173 args) w = .ok (.enter 173 args) w:=call_x 173 args w func173
end Go.Proofs.Tryzx
end
section
namespace Go.Proofs.Tryzx
def lawL:List Nat := [3,4,5,6,7,8,9,10,11,12,13,14,15,16,17,18,19,20,21,22,23,24,25,26,27,28,29,30,31,32,33,34,35,36,37,38,39,40,41,42,43,44,45,46,48,49,50,51,52,53,54,55,56,57,58,59,60,61,62,63,64,65,66,67,68,69,70,71,72,73,74,75,76,77,78,79,80,81,82,89,90,91,92,93,94,95,96,97,98,99,100,101,102,103,104,105,106,107,108,109,110,111,112,113,114,115,116,117,118,119,120,141,142,143,144,145,146,147,148,149,150,151,152,153,162,163,164,165,166,167,168,169,170,171,172,173]
end Go.Proofs.Tryzx
end
namespace Go.Proofs.YtpblihmhpalkfaaGreat
namespace Rn
open Go.Conc
def lawF:Nat→Bool:=fun k=>Tryzx.lawL.contains k
def lawD:Nat→Bool:=fun i=>i != specAt 47
theorem law_all : Tryzx.lawL.all (fun f => (f != 47) && match Tryz.prog.funcs[f]? with | some fn => (fn.name != "runtime.NumGoroutine") && (match fn.body with | some c => okC Tryz.prog.toTables lawF lawD c | none => false) | none => false) = true := by decide +kernel
theorem law_one {f : Nat} (h : lawF f = true) : f ≠ 47 ∧ ∃ fn c, Tryz.prog.funcs[f]? = some fn ∧ (fn.name == "runtime.NumGoroutine") = false ∧ fn.body = some c ∧ okC Tryz.prog.toTables lawF lawD c = true := by
 have hm : f ∈ Tryzx.lawL := by simpa [lawF] using h
 have := List.all_eq_true.1 law_all f hm;rw [Bool.and_eq_true] at this;obtain ⟨hne, this⟩ := this;refine ⟨by simpa using hne, ?_⟩;cases hf : Tryz.prog.funcs[f]? with
 | none => rw [hf] at this; cases this
 | some fn =>
  rw [hf] at this;dsimp only at this;cases hb : fn.body with
  | none => rw [hb] at this; simp at this
  | some c =>
   rw [hb] at this;simp only [Bool.and_eq_true] at this;exact ⟨fn, c, rfl, by simpa using this.1, hb, this.2⟩
theorem xset:Tryzx.prog.funcs=Tryz.prog.funcs.setIfInBounds 47 Tryzx.f47:=by kernel_rfl
theorem xfuncs (f:Nat) (hf:f ≠ 47):Tryzx.prog.funcs[f]?=Tryz.prog.funcs[f]?:=by
 rw [xset,Array.getElem?_setIfInBounds_ne (Ne.symm hf)]
theorem lawD_spec {f:Nat} (h:lawD (specAt f)=false):f=47:=by
 simp only [lawD,specAt,bne_eq_false_iff_eq] at h;omega
theorem small_res {fn:Func} (h:(fn.results.toList.all fun x=>match x with | .tmp t=>decide (t<1000000) | .cell a _=>decide (a<1000000))=true):resD fn lawD=true:=by
 unfold resD;rw [List.all_eq_true] at h ⊢;intro x hx;have:=h x hx;have key:∀ t,t<1000000→lawD t=true:=fun t ht=>by simp only [lawD,specAt,bne_iff_ne,ne_eq]; omega
 cases x with
 | tmp t=>exact key t (by simpa using this)
 | cell a _=>exact key a (by simpa using this)
theorem law_res:(Tryzx.prog.funcs.toList.all fun fn=>fn.results.toList.all fun x=>match x with | .tmp t=>decide (t<1000000) | .cell a _=>decide (a<1000000))=true:=by decide +kernel
theorem law_resD {f:Nat} {fn:Func} (h:Tryzx.prog.funcs[f]?=some fn):resD fn lawD=true:=by
 refine small_res (List.all_eq_true.1 law_res fn ?_);obtain ⟨hi,rfl⟩:=Array.getElem?_eq_some_iff.1 h;simp
structure Win where
 live:Bool
 blk:Nat
 off:Nat
 cells:Array Value
noncomputable def gctx (noT:TypeId) (ws:List Win):Ctx where
 tb:=Tryz.prog.toTables
 fx:=Tryzx.prog.funcs
 fs:=Tryz.prog.funcs
 F:=lawF
 RO:=fun a=>Tryz.prog.globals.size≤a∧a<Tryz.prog.globals.size+ws.length
 sh:=fun a=>if Tryz.prog.globals.size≤a∧a<Tryz.prog.globals.size+ws.length then ((ws[a - Tryz.prog.globals.size]?).map (·.off)).getD 0 else 0
 noT:=noT
 D:=fun _=>lawD
noncomputable def sctx (noT:TypeId) (ws:List Win):Ctx where
 tb:=Tryz.prog.toTables
 fx:=Tryzx.prog.funcs
 fs:=Tryzx.prog.funcs
 F:=lawF
 RO:=fun a=>Tryz.prog.globals.size≤a∧a<Tryz.prog.globals.size+ws.length
 sh:=fun _=>0
 noT:=noT
 D:=fun _=>lawD
section
variable {noT : TypeId} {ws : List Win}
theorem gok:CtxOk (gctx noT ws):=by
 refine ⟨fun f h => ?_,fun f h => ?_,fun f fn h=>law_resD h,fun k f h => ?_,fun k f h => ?_⟩
 ·obtain ⟨hne,fn,c,h1,h2,h3,_⟩:=law_one h
  exact ⟨fn,(xfuncs f hne).trans h1,h2,by rw [h3]; rfl⟩
 ·obtain ⟨hne,fn,c,h1,h2,h3,_⟩:=law_one h
  exact ⟨fn,h1,h2,by rw [h3]; rfl⟩
 ·obtain rfl:=lawD_spec h
  exact ⟨_,Tryzx.func47,by decide,rfl⟩
 ·obtain rfl:=lawD_spec h
  exact ⟨_,Tryz.func47,by decide +kernel,by rw [pbody_body]; rfl⟩
theorem gfine {f:Nat} (h:lawF f=true):Fine (gctx noT ws) f:=by
 obtain ⟨hne,fn,c,h1,h2,h3,h4⟩:=law_one h;exact ⟨(xfuncs f hne).symm,fn,c,(xfuncs f hne).trans h1,h3,h4⟩
theorem sok : CtxOk (sctx noT ws) := by
 have one : ∀ f, lawF f = true → ∃ fn, Tryzx.prog.funcs[f]? = some fn ∧ (fn.name == "runtime.NumGoroutine") = false ∧ fn.body.isNone = false := fun f h => by
  obtain ⟨hne, fn, c, h1, h2, h3, _⟩ := law_one h;exact ⟨fn, (xfuncs f hne).trans h1, h2, by rw [h3]; rfl⟩
 have two : ∀ k f, (sctx noT ws).D k (specAt f) = false → ∃ fn, Tryzx.prog.funcs[f]? = some fn ∧ (fn.name == "runtime.NumGoroutine") = false ∧ fn.body.isNone = false := fun k f h => by
  obtain rfl := lawD_spec h;exact ⟨_, Tryzx.func47, by decide, rfl⟩
 exact ⟨one, one, fun f fn h => law_resD h, two, two⟩
theorem bodyX_ok:okC Tryz.prog.toTables lawF lawD Tryzx.bodyX=true:=by decide +kernel
theorem sfine:∀ f n,Entered (sctx noT ws) f n→Fine (sctx noT ws) f:=by
 rintro f n (h | ⟨⟨k,h⟩,_⟩)
 ·obtain ⟨hne,fn,c,h1,h2,h3,h4⟩:=law_one h
  exact ⟨rfl,fn,c,(xfuncs f hne).trans h1,h3,h4⟩
 ·obtain rfl:=lawD_spec h
  exact ⟨rfl,_,_,Tryzx.func47,rfl,bodyX_ok⟩
theorem cfine:Fine (sctx noT ws) 47:=⟨rfl,_,_,Tryzx.func47,rfl,bodyX_ok⟩
def dg (r:Ren):Ren:=fun a a'=>a=a'∧∃ b,r a b
variable {r : Ren} {w v : World}
theorem ar_self {a b:Addr} (h:AR (gctx noT ws) r a b):AR (sctx noT ws) (dg r) a a:=⟨⟨rfl,_,h.1⟩,rfl,rfl⟩
theorem vr_self {x y:Value} (h:VR (gctx noT ws) r x y):VR (sctx noT ws) (dg r) x x:=by
 induction h with
 | bool b=>exact .bool b
 | int k n=>exact .int k n
 | ptr0=>exact .ptr0
 | ptr a=>exact .ptr (ar_self a)
 | sl0 n c=>exact .sl0 n c
 | sl n c a=>exact .sl n c (ar_self a)
 | map0=>exact .map0
 | map a=>exact .map ⟨rfl,_,a⟩
 | @func f xs ys xs' ys' hf e _ e' _ ih ih' =>
  refine .func hf rfl (fun i x y hx hy => ?_) rfl (fun i x y hx hy => ?_)
  ·rw [hx] at hy; cases hy
   have hi:=(Array.getElem?_eq_some_iff.1 hx).1;exact ih i x _ hx (Array.getElem?_eq_getElem (e ▸ hi))
  ·rw [hx] at hy; cases hy
   have hi:=(Array.getElem?_eq_some_iff.1 hx).1;exact ih' i x _ hx (Array.getElem?_eq_getElem (e' ▸ hi))
 | nilFunc=>exact .nilFunc
 | @agg xs ys e _ ih =>
  refine .agg rfl fun i x y hx hy => ?_
  rw [hx] at hy; cases hy;have hi:=(Array.getElem?_eq_some_iff.1 hx).1;exact ih i x _ hx (Array.getElem?_eq_getElem (e ▸ hi))
 | @tuple xs ys e _ ih =>
  refine .tuple rfl fun i x y hx hy => ?_
  rw [hx] at hy; cases hy;have hi:=(Array.getElem?_eq_some_iff.1 hx).1;exact ih i x _ hx (Array.getElem?_eq_getElem (e ▸ hi))
theorem vall_self {xs ys:Array Value} (h:VAll (gctx noT ws) r xs ys):VAll (sctx noT ws) (dg r) xs xs:=by
 refine ⟨rfl,fun i x y hx hy => ?_⟩;rw [hx] at hy; cases hy;obtain ⟨y,_,hy⟩:=h.get? hx;exact vr_self hy
theorem or_self {x y:Option Obj} (h:OR (gctx noT ws) r x y):OR (sctx noT ws) (dg r) x x:=by
 cases h with
 | cells va=>exact .cells (vall_self va)
 | @map es es' k m =>
  refine .map ⟨rfl,fun i e e' he he' => ?_⟩;rw [he] at he'; cases he';have hi:=(Array.getElem?_eq_some_iff.1 he).1;have:=m.get i e _ he (Array.getElem?_eq_getElem (m.size ▸ hi));exact ⟨vr_self this.key,vr_self this.val,rfl⟩
 | number l a=>exact .number l (ar_self a)
theorem wr_self (h:WR (gctx noT ws) r w v):WR (sctx noT ws) (dg r) w w where
 lt:=by rintro a _ ⟨rfl,b,hb⟩; exact ⟨(h.lt _ _ hb).1,(h.lt _ _ hb).1⟩
 fn:=by rintro a b b' ⟨rfl,_⟩ ⟨rfl,_⟩; rfl
 inj:=by rintro a a' b ⟨rfl,_⟩ ⟨rfl,_⟩; exact .inl rfl
 obj:=by rintro a _ ⟨rfl,b,hb⟩ hr; exact or_self (h.obj _ _ hb hr)
 win:=by
  rintro a _ ⟨rfl,b,hb⟩ hr;obtain ⟨c,hi,c',t',z',h1,h2,h3,h4⟩:=h.win _ _ hb hr;refine ⟨c,hi,c,_,_,h1,h2,h1,fun i u hu=>⟨u,by simpa [sctx] using hu,?_⟩⟩;obtain ⟨u',_,hv⟩:=h4 i u hu;exact vr_self hv
 winG:=by rintro a _ ⟨rfl,b,hb⟩ hr; exact h.winG _ _ hb hr
 glob:=by rintro a _ ⟨rfl,b,hb⟩ _ _; rfl
 big:=⟨h.big.1,h.big.1⟩
 shz:=fun a _=>rfl
 roLt:=h.roLt
 noInfo:=h.noInfo
end
end Rn
namespace X
open Go.RowKit
theorem l01In_any (x a b:Int) (w:World):Calls Tryzx.prog 97 #[.int .i64 x,.int .i64 a,.int .i64 b] w fun e w'=>e = .returned (.bool (inB x a b))∧w=w':=by
 by_cases c1:a≤x
 ·by_cases c2:x≤b
  ·have H:=Lib.hid (inB_t ⟨c1,c2⟩)
   go_enter Tryzx.func97,Tryz.ntmps97;go_wp2;go_ret;exact ⟨ret_bool H.out.symm,rfl⟩
  ·have H:=Lib.hid (inB_f (x:=x) (a:=a) (b:=b) (by omega))
   go_enter Tryzx.func97,Tryz.ntmps97;go_wp2;go_ret;exact ⟨ret_bool H.out.symm,rfl⟩
 ·have H:=Lib.hid (inB_f (x:=x) (a:=a) (b:=b) (by omega))
  go_enter Tryzx.func97,Tryz.ntmps97;go_wp2;go_ret;exact ⟨ret_bool H.out.symm,rfl⟩
theorem within_any (x a b:Int) (w:World):Calls Tryzx.prog 76 #[.int .i64 x,.int .i64 a,.int .i64 b] w fun e w'=>e = .returned (.bool (inB x a b))∧w=w':=by
 by_cases c1:a≤x
 ·by_cases c2:x≤b
  ·have H:=Lib.hid (inB_t ⟨c1,c2⟩)
   go_enter Tryzx.func76,Tryz.ntmps76;go_wp2;go_ret;exact ⟨ret_bool H.out.symm,rfl⟩
  ·have H:=Lib.hid (inB_f (x:=x) (a:=a) (b:=b) (by omega))
   go_enter Tryzx.func76,Tryz.ntmps76;go_wp2;go_ret;exact ⟨ret_bool H.out.symm,rfl⟩
 ·have H:=Lib.hid (inB_f (x:=x) (a:=a) (b:=b) (by omega))
  go_enter Tryzx.func76,Tryz.ntmps76;go_wp2;go_ret;exact ⟨ret_bool H.out.symm,rfl⟩
end X
namespace X
open Go.RowKit
theorem isPlace_any (x:Int) (w:World):Calls Tryzx.prog 141 #[.int .i64 x] w fun e w'=>e = .returned (.bool (inB x (-60) 60))∧w=w':=by
 go_enter Tryzx.func141,Tryz.ntmps141;go_wp2_with (go_at_call 76; refine (within_any _ _ _ _).mono ?_; rintro e w' ⟨rfl,rfl⟩);go_ret;exact ⟨rfl,rfl⟩
theorem ok_any (x y:Int) (w:World):Calls Tryzx.prog 167 #[.agg #[.int .i64 x,.int .i64 y]] w fun e w'=>e = .returned (.bool (ptB x y))∧Below w.heap.size w w':=by
 cases h1:inB x (-60) 60
 ·have HF:=Lib.hid (show ptB x y=false by simp [ptB,h1])
  go_enter Tryzx.func167,Tryz.ntmps167;go_wp2_with (go_at_call 141; refine (isPlace_any _ _).mono ?_; rintro e w' ⟨rfl,rfl⟩);go_ret;exact ⟨ret_bool HF.out.symm,(Below.refl _ _).alloc (Nat.le_refl _) _⟩
 ·have HF:=Lib.hid (show ptB x y=inB y (-60) 60 by simp [ptB,h1])
  go_enter Tryzx.func167,Tryz.ntmps167;go_wp2_with (go_at_call 141; refine (isPlace_any _ _).mono ?_; rintro e w' ⟨rfl,rfl⟩);go_ret;exact ⟨ret_bool HF.out.symm,(Below.refl _ _).alloc (Nat.le_refl _) _⟩
theorem pointOk_any (x y:Int) (w:World):Calls Tryzx.prog 169 #[.agg #[.int .i64 x,.int .i64 y]] w fun e w'=>e = .returned (.bool (ptB x y))∧Below w.heap.size w w':=by
 cases h1:inB x (-60) 60
 ·have HF:=Lib.hid (show ptB x y=false by simp [ptB,h1])
  go_enter Tryzx.func169,Tryz.ntmps169;go_wp2_with (go_at_call 97; refine (l01In_any _ _ _ _).mono ?_; rintro e w' ⟨rfl,rfl⟩);go_ret;exact ⟨ret_bool HF.out.symm,(Below.refl _ _).alloc (Nat.le_refl _) _⟩
 ·have HF:=Lib.hid (show ptB x y=inB y (-60) 60 by simp [ptB,h1])
  go_enter Tryzx.func169,Tryz.ntmps169;go_wp2_with (go_at_call 97; refine (l01In_any _ _ _ _).mono ?_; rintro e w' ⟨rfl,rfl⟩);go_ret;exact ⟨ret_bool HF.out.symm,(Below.refl _ _).alloc (Nat.le_refl _) _⟩
set_option maxHeartbeats 800000 in
theorem side_any (ax ay bx b_y cx cy:Int) (w:World) (ha:ptB ax ay=true) (hb:ptB bx b_y=true) (hc:ptB cx cy=true) :
  Calls Tryzx.prog 168 #[.agg #[.int .i64 cx,.int .i64 cy],.agg #[.int .i64 ax,.int .i64 ay],.agg #[.int .i64 bx,.int .i64 b_y]] w fun e w'=>e = .returned (.int .i64 (sideI ax ay bx b_y cx cy))∧Below w.heap.size w w':=by
 have hbd:=sideI_bd ha hb hc;have HS:Hid (sideI ax ay bx b_y cx cy=(bx - ax)*(cy - ay) - (b_y - ay)*(cx - ax)):=rfl;rw [HS.out] at hbd;rw [ptB_iff] at ha hb hc;have h1:=mul120 (a:=bx - ax) (b:=cy - ay) (by omega) (by omega);have h2:=mul120 (a:=b_y - ay) (b:=cx - ax) (by omega) (by omega);go_enter Tryzx.func168,Tryz.ntmps168;go_wp2;go_ret;exact ⟨rfl,(((Below.refl _ _).alloc (Nat.le_refl _) _).alloc (by simp) _).alloc (by simp; omega) _⟩
theorem l02Side_any (ax ay bx b_y cx cy:Int) (w:World) (ha:ptB ax ay=true) (hb:ptB bx b_y=true) (hc:ptB cx cy=true) :
  Calls Tryzx.prog 170 #[.agg #[.int .i64 ax,.int .i64 ay],.agg #[.int .i64 bx,.int .i64 b_y],.agg #[.int .i64 cx,.int .i64 cy]] w fun e w'=>e = .returned (.int .i64 (sideI ax ay bx b_y cx cy))∧Below w.heap.size w w':=by
 have hbd:=sideI_bd ha hb hc;have HS:Hid (sideI ax ay bx b_y cx cy=(bx - ax)*(cy - ay) - (b_y - ay)*(cx - ax)):=rfl;rw [HS.out] at hbd;rw [ptB_iff] at ha hb hc;have h1:=mul120 (a:=bx - ax) (b:=cy - ay) (by omega) (by omega);have h2:=mul120 (a:=b_y - ay) (b:=cx - ax) (by omega) (by omega);go_enter Tryzx.func170,Tryz.ntmps170;go_wp2;go_ret;exact ⟨rfl,(((Below.refl _ _).alloc (Nat.le_refl _) _).alloc (by simp) _).alloc (by simp; omega) _⟩
end X
namespace X
open Go.RowKit
section
variable {P : Program} {ops : Array Oper} {Q : Exit → Act → World → Prop} {md : Region.Mode}
theorem take_held {i d:Nat} {oi:Oper} {v:Value} {fuel:Nat} {listed:Array Bool} {a:Act} {w:World} (hi:ops[i]?=some oi) (hd:oi.dst=some d)
  (h:wpAnyH P md ops Q (fun _=>True) fuel (listed.setIfInBounds i true) (a.put (some d) v) w)
  (hs:Region.noSelect ops=true:=by kernel_rfl) (hf:Region.free md ops listed i=true:=by kernel_rfl) (hr:(Region.ready md ops listed).contains i=true:=by kernel_rfl) (hQ:∀ c a w,Q (.panic c) (a.put (some d) v) w→Q (.panic c) a w:=by exact fun _ _ _ h=>h)
  (hw:Region.wanted oi (yielded ops a.tmps)=true:=by kernel_rfl) (hy:∀ w,True→(execOp a.eval oi).run P w = .ok (.value v) w:=by intro w _; go_simp; try rfl):wpAnyH P md ops Q (fun _=>True) (fuel+1) listed a w :=
 wpAnyH_take (v:=v) hi hs hf hr (by rw [hd]; exact hQ) (Or.inl ⟨hw,hy⟩) trivial (by rw [hd]; exact h)
theorem skip_held {i d:Nat} {oi:Oper} {fuel:Nat} {listed:Array Bool} {a:Act} {w:World} (hi:ops[i]?=some oi) (hd:oi.dst=some d)
  (h:wpAnyH P md ops Q (fun _=>True) fuel (listed.setIfInBounds i true) (a.put (some d) undef) w)
  (hs:Region.noSelect ops=true:=by kernel_rfl) (hf:Region.free md ops listed i=true:=by kernel_rfl) (hr:(Region.ready md ops listed).contains i=true:=by kernel_rfl) (hQ:∀ c a w,Q (.panic c) (a.put (some d) undef) w→Q (.panic c) a w:=by exact fun _ _ _ h=>h)
  (hw:Region.wanted oi (yielded ops a.tmps)=false:=by kernel_rfl):wpAnyH P md ops Q (fun _=>True) (fuel+1) listed a w :=
 wpAnyH_take (v:=undef) hi hs hf hr (by rw [hd]; exact hQ) (Or.inr ⟨hw,rfl⟩) trivial (by rw [hd]; exact h)
end
theorem cell_new0 (w:World) (u:Value) (t:TypeId):(w.alloc (.cells #[u] t)).cell? ⟨w.heap.size,0,none⟩=some u:=World.rowIs.cell (World.rowIs_alloc w #[u] t (fun _=>u) (fun i hi=>by simp at hi; subst hi; rfl)) (by simp)
theorem rem_nat (a n:Nat):Int.tmod (a:Int) (n:Int)=((a % n:Nat):Int):=by rw [Int.tmod_eq_emod_of_nonneg (by omega)]; rfl
theorem ptCells {wr:World} {b off n j:Nat} {zs:List Int} (hc:∀ i,i<n*2→wr.cell? ⟨b,off+i,none⟩=some (.int .i64 (nth zs i))) (hj:j<n) :
  wr.cell? ⟨b,off+j*2,none⟩=some (.int .i64 (nth zs (j*2)))∧wr.cell? ⟨b,off+j*2+1,none⟩=some (.int .i64 (nth zs (j*2+1))) :=
 ⟨hc (j*2) (by omega),by have:=hc (j*2+1) (by omega); rwa [← Nat.add_assoc] at this⟩
set_option maxHeartbeats 1000000 in
theorem sStoneOk_any (A:Option Addr) (n c:Nat) (zs:List Int) (w:World) (h:RecsAt w w.heap.size 2 A n zs) :
  Calls Tryzx.prog 147 #[.agg #[.slice A n c]] w fun e w'=>e = .returned (.bool (stoneB zs n))∧Below w.heap.size w w':=by
 have HA:=Lib.hid ((Below.refl w.heap.size w).alloc (Nat.le_refl _) (.cells #[.slice A n c] 126));cases hB:inB (n:Int) 3 6
 ·have HF:=Lib.hid (stoneB_f1 (zs:=zs) hB)
  go_enter Tryzx.func147,Tryz.ntmps147;go_wp2_with (go_at_call 97; refine (l01In_any _ _ _ _).mono ?_; rintro e w' ⟨rfl,rfl⟩);go_ret;exact ⟨ret_bool HF.out.symm,HA.out⟩
 ·have hn:=inB_iff.1 hB
  have hn3:3≤n:=by omega
  have hn6:n≤6:=by omega
  clear hn;obtain ⟨b,off,rfl,hbB,hc⟩:=h.2 (by omega);have HC:=Lib.hid hc;clear h hc;go_enter Tryzx.func147,Tryz.ntmps147;go_wp2_with (go_at_call 97; refine (l01In_any _ _ _ _).mono ?_; rintro e w' ⟨rfl,rfl⟩);go_loopw [4] (fun i wr=>∃ k:Nat,k≤n∧i = .int .i64 k∧ptsTo zs k∧wr.cell? ⟨w.heap.size,0,none⟩=some (.slice (some ⟨b,off,none⟩) n c)∧Below w.heap.size w wr) (fun i _=>n - (intOf i).toNat)
  case atStart=>exact ⟨0,Nat.zero_le _,rfl,ptsTo_0 _,cell_new0 _ _ _,HA.out⟩
  case round =>
   clear HA;obtain ⟨k,hk,rfl,hag,hbox,hb⟩:=hrel;have HB:=Lib.hid hb;have hgl:=World.block_lt_of_cell? wr _ hbox;simp only at hgl;by_cases hlt:k<n
   ·obtain ⟨x0,x1⟩:=ptCells (fun i hi=>(hb.cell (by exact hbB)).trans (HC.out i hi)) hlt
    clear hb;have HBOX:=Lib.hid hbox;cases hp:ptA zs k
    ·have HF:=Lib.hid (stoneB_f2 hlt hp)
     have hp':ptB (nth zs (k*2)) (nth zs (k*2+1))=false:=hp;go_wp2_with fail
     refine (pointOk_any _ _ _).mono ?_;rw [hp'];rintro e w1 ⟨rfl,hb1⟩;have HB1:=Lib.hid (HB.out.trans (hb1.mono HB.out.size));go_wp2;go_ret;exact ⟨ret_bool HF.out.symm,HB1.out⟩
    ·have HS:=Lib.hid (ptsTo_step hag hp)
     have hp':ptB (nth zs (k*2)) (nth zs (k*2+1))=true:=hp;go_wp2_with fail
     refine (pointOk_any _ _ _).mono ?_;rw [hp'];rintro e w1 ⟨rfl,hb1⟩;have HB1:=Lib.hid (HB.out.trans (hb1.mono HB.out.size));have HBX:=Lib.hid ((hb1.cell (p:=⟨w.heap.size,0,none⟩) hgl).trans HBOX.out);clear hb1;go_wp2;go_roundw
     case rel=>exact ⟨k+1,by omega,by go_num,HS.out,HBX.out,HB1.out⟩
     case measure=>first | (simp [intOf]; done) | (simp [intOf]; omega)
   ·obtain rfl:k=n:=by omega
    have HPT:=Lib.hid hag;clear hb hag;go_wp2;go_loopw [5] (fun i wr=>∃ j:Nat,j≤k∧i = .int .i64 j∧turnTo zs k j∧wr.cell? ⟨w.heap.size,0,none⟩=some (.slice (some ⟨b,off,none⟩) k c)∧Below w.heap.size w wr) (fun i _=>k - (intOf i).toNat)
    case atStart=>exact ⟨0,Nat.zero_le _,rfl,turnTo_0 _ _,hbox,HB.out⟩
    case round =>
     clear HB hgl hbox hlt hk;obtain ⟨j,hj,rfl,hag,hbox,hb⟩:=hrel;have HB:=Lib.hid hb;have hgl:=World.block_lt_of_cell? _ _ hbox;simp only at hgl;by_cases hlt:j<k
     ·have hm1:(j+1) % k<k:=Nat.mod_lt _ (by omega)
      have hm2:(j+2) % k<k:=Nat.mod_lt _ (by omega);obtain ⟨x0,x1⟩:=ptCells (fun i hi=>(hb.cell (by exact hbB)).trans (HC.out i hi)) hlt;obtain ⟨y0,y1⟩:=ptCells (fun i hi=>(hb.cell (by exact hbB)).trans (HC.out i hi)) hm1;obtain ⟨z0,z1⟩:=ptCells (fun i hi=>(hb.cell (by exact hbB)).trans (HC.out i hi)) hm2;obtain ⟨o0,o1⟩:=ptCells (fun i hi=>(hb.cell (by exact hbB)).trans (HC.out i hi)) (show 0<k by omega);clear hb;have r1:Int.tmod ((j:Int)+1) (k:Int)=(((j+1) % k:Nat):Int):=rem_nat (j+1) k;have r2:Int.tmod ((j:Int)+2) (k:Int)=(((j+2) % k:Nat):Int):=rem_nat (j+2) k;have hpk:=HPT.out j hlt;have hp1:=HPT.out _ hm1;have hp2:=HPT.out _ hm2;have hp0:=HPT.out 0 (by omega);have HTA:=Lib.hid (turnB_f1 (zs:=zs) (n:=k) (k:=j));have HTB:=Lib.hid (turnB_f2 (zs:=zs) (n:=k) (k:=j));have HTC:=Lib.hid (turnB_t1 (zs:=zs) (n:=k) (k:=j));have HTD:=Lib.hid (turnB_t2 (zs:=zs) (n:=k) (k:=j));generalize (j+1) % k=j1 at *
      generalize (j+2) % k=j2 at *
      have hsd:sd zs j j1 j2=sideI (nth zs (j*2)) (nth zs (j*2+1)) (nth zs (j1*2)) (nth zs (j1*2+1)) (nth zs (j2*2)) (nth zs (j2*2+1)):=rfl;have hbd:=sideI_bd hpk hp1 hp2;unfold ptA at hpk hp1 hp2 hp0;have i1:IntKind.i64.wrap ((j:Int)+1)=(j:Int)+1:=IntWalk.i64_in _ (by omega);have i2:IntKind.i64.wrap ((j:Int)+2)=(j:Int)+2:=IntWalk.i64_in _ (by omega);have i3:IntKind.i64.wrap (j1:Int)=(j1:Int):=IntWalk.i64_in _ (by omega);have i4:IntKind.i64.wrap (j2:Int)=(j2:Int):=IntWalk.i64_in _ (by omega);have i5:(j:Int)<(k:Int):=by omega
      have i6:(j1:Int)<(k:Int):=by omega
      have i7:(j2:Int)<(k:Int):=by omega
      have i8:¬ k=0:=by omega
      have i9:¬ (k:Int)=0:=by omega
      have i10:((k:Int) == 0)=false:=by simp; omega
      by_cases hneg:sd zs j j1 j2≤0
      ·have HF:=Lib.hid (stoneB_f3 hlt (HTA.out hneg))
       rw [hsd] at hneg;clear hsd;go_wp2;go_region_held3 (fun w'=>w'.cell? ⟨w.heap.size,0,none⟩=some (.slice (some ⟨b,off,none⟩) k c)∧(w'.cell? ⟨b,off+j*2,none⟩=some (.int .i64 (nth zs (j*2)))∧w'.cell? ⟨b,off+j*2+1,none⟩=some (.int .i64 (nth zs (j*2+1))))∧(w'.cell? ⟨b,off+j1*2,none⟩=some (.int .i64 (nth zs (j1*2)))∧w'.cell? ⟨b,off+j1*2+1,none⟩=some (.int .i64 (nth zs (j1*2+1))))∧(w'.cell? ⟨b,off+j2*2,none⟩=some (.int .i64 (nth zs (j2*2)))∧w'.cell? ⟨b,off+j2*2+1,none⟩=some (.int .i64 (nth zs (j2*2+1))))) (first | (simp [*]; done) | (refine ⟨?_,⟨?_,?_⟩,⟨?_,?_⟩,⟨?_,?_⟩⟩ <;> (rw [hcc _ _ (by simp <;> omega)]; simp [*]))) ((go_at_call 170; refine (l02Side_any _ _ _ _ _ _ _ hpk hp1 hp2).mono ?_; rintro e w1 ⟨rfl,hb1⟩; obtain ⟨hcc,hff⟩:=bcell hb1));have HB1:=Lib.hid (HB.out.drew.trans (hb1.mono (by have:=HB.out.size; simp; omega)))
       have HBX:Hid (w1.cell? ⟨w.heap.size,0,none⟩=some (.slice (some ⟨b,off,none⟩) k c)):=(hb1.cell (p:=⟨w.heap.size,0,none⟩) (by simp; omega)).trans hbox
       have hgl1:w.heap.size<w1.heap.size:=by have:=hb1.size; simp at this; omega
       clear hcc hff hb1;go_wp2;go_ret;exact ⟨ret_bool HF.out.symm,HB1.out⟩
      ·have hpos:0<sd zs j j1 j2:=by omega
       by_cases hlast:j+1<k
       ·obtain ⟨v0,v1⟩:=ptCells (fun i hi=>(HB.out.cell (by exact hbB)).trans (HC.out i hi)) hlast
        have hpn:=HPT.out _ hlast;unfold ptA at hpn;simp only [Nat.zero_mul,Nat.add_zero,Nat.zero_add] at o0 o1 hp0;have hsd2:sd zs 0 j (j+1)=sideI (nth zs 0) (nth zs 1) (nth zs (j*2)) (nth zs (j*2+1)) (nth zs ((j+1)*2)) (nth zs ((j+1)*2+1)):=rfl;have i11:(j:Int)+1<(k:Int):=by omega
        have i12:(0:Int)<(k:Int):=by omega
        have i13:((j:Int)+1).toNat=j+1:=by omega
        have i14:(0:Int)≤(j:Int)+1:=by omega
        have i15:0<k:=by omega
        by_cases hneg2:sd zs 0 j (j+1)<0
        ·have HF:=Lib.hid (stoneB_f3 hlt (HTB.out hlast hneg2))
         rw [hsd] at hneg hpos;rw [hsd2] at hneg2;clear hsd hsd2;go_wp2;go_region_held3 (fun w'=>w'.cell? ⟨w.heap.size,0,none⟩=some (.slice (some ⟨b,off,none⟩) k c)∧(w'.cell? ⟨b,off+j*2,none⟩=some (.int .i64 (nth zs (j*2)))∧w'.cell? ⟨b,off+j*2+1,none⟩=some (.int .i64 (nth zs (j*2+1))))∧(w'.cell? ⟨b,off+j1*2,none⟩=some (.int .i64 (nth zs (j1*2)))∧w'.cell? ⟨b,off+j1*2+1,none⟩=some (.int .i64 (nth zs (j1*2+1))))∧(w'.cell? ⟨b,off+j2*2,none⟩=some (.int .i64 (nth zs (j2*2)))∧w'.cell? ⟨b,off+j2*2+1,none⟩=some (.int .i64 (nth zs (j2*2+1))))) (first | (simp [*]; done) | (refine ⟨?_,⟨?_,?_⟩,⟨?_,?_⟩,⟨?_,?_⟩⟩ <;> (rw [hcc _ _ (by simp <;> omega)]; simp [*]))) ((go_at_call 170; refine (l02Side_any _ _ _ _ _ _ _ hpk hp1 hp2).mono ?_; rintro e w1 ⟨rfl,hb1⟩; obtain ⟨hcc,hff⟩:=bcell hb1));have HB1:=Lib.hid (HB.out.drew.trans (hb1.mono (by have:=HB.out.size; simp; omega)))
         have HBX:Hid (w1.cell? ⟨w.heap.size,0,none⟩=some (.slice (some ⟨b,off,none⟩) k c)):=(hb1.cell (p:=⟨w.heap.size,0,none⟩) (by simp; omega)).trans hbox
         have hgl1:w.heap.size<w1.heap.size:=by have:=hb1.size; simp at this; omega
         replace o0:=(hb1.cell (p:=⟨b,off,none⟩) (by simp; omega)).trans o0
         replace o1:=(hb1.cell (p:=⟨b,off+1,none⟩) (by simp; omega)).trans o1
         replace x0:=(hb1.cell (p:=⟨b,off+j*2,none⟩) (by simp; omega)).trans x0
         replace x1:=(hb1.cell (p:=⟨b,off+j*2+1,none⟩) (by simp; omega)).trans x1
         replace v0:=(hb1.cell (p:=⟨b,off+(j+1)*2,none⟩) (by simp; omega)).trans v0
         replace v1:=(hb1.cell (p:=⟨b,off+(j+1)*2+1,none⟩) (by simp; omega)).trans v1
         replace hbox:=HBX.out
         clear hcc hff hb1 y0 y1 z0 z1;go_wp2;go_region_held3 (fun w'=>w'.cell? ⟨w.heap.size,0,none⟩=some (.slice (some ⟨b,off,none⟩) k c)∧(w'.cell? ⟨b,off,none⟩=some (.int .i64 (nth zs 0))∧w'.cell? ⟨b,off+1,none⟩=some (.int .i64 (nth zs 1)))∧(w'.cell? ⟨b,off+j*2,none⟩=some (.int .i64 (nth zs (j*2)))∧w'.cell? ⟨b,off+j*2+1,none⟩=some (.int .i64 (nth zs (j*2+1))))∧(w'.cell? ⟨b,off+(j+1)*2,none⟩=some (.int .i64 (nth zs ((j+1)*2)))∧w'.cell? ⟨b,off+(j+1)*2+1,none⟩=some (.int .i64 (nth zs ((j+1)*2+1))))) (first | (simp [*]; done) | (refine ⟨?_,⟨?_,?_⟩,⟨?_,?_⟩,⟨?_,?_⟩⟩ <;> (rw [hcc _ _ (by simp <;> omega)]; simp [*]))) ((go_at_call 170; refine (l02Side_any _ _ _ _ _ _ _ hp0 hpk hpn).mono ?_; rintro e w2 ⟨rfl,hb2⟩; obtain ⟨hcc,hff⟩:=bcell hb2));have HB2:=Lib.hid (HB1.out.drew.trans (hb2.mono (by have:=HB1.out.size; simp; omega)))
         have HBX2:Hid (w2.cell? ⟨w.heap.size,0,none⟩=some (.slice (some ⟨b,off,none⟩) k c)):=(hb2.cell (p:=⟨w.heap.size,0,none⟩) (by simp; omega)).trans HBX.out
         clear hcc hff hb2;go_wp2;go_ret;exact ⟨ret_bool HF.out.symm,HB2.out⟩
        ·have HS:=Lib.hid (turnTo_step hag (HTD.out hpos hlast (by omega)))
         rw [hsd] at hneg hpos;rw [hsd2] at hneg2;clear hsd hsd2;go_wp2;go_region_held3 (fun w'=>w'.cell? ⟨w.heap.size,0,none⟩=some (.slice (some ⟨b,off,none⟩) k c)∧(w'.cell? ⟨b,off+j*2,none⟩=some (.int .i64 (nth zs (j*2)))∧w'.cell? ⟨b,off+j*2+1,none⟩=some (.int .i64 (nth zs (j*2+1))))∧(w'.cell? ⟨b,off+j1*2,none⟩=some (.int .i64 (nth zs (j1*2)))∧w'.cell? ⟨b,off+j1*2+1,none⟩=some (.int .i64 (nth zs (j1*2+1))))∧(w'.cell? ⟨b,off+j2*2,none⟩=some (.int .i64 (nth zs (j2*2)))∧w'.cell? ⟨b,off+j2*2+1,none⟩=some (.int .i64 (nth zs (j2*2+1))))) (first | (simp [*]; done) | (refine ⟨?_,⟨?_,?_⟩,⟨?_,?_⟩,⟨?_,?_⟩⟩ <;> (rw [hcc _ _ (by simp <;> omega)]; simp [*]))) ((go_at_call 170; refine (l02Side_any _ _ _ _ _ _ _ hpk hp1 hp2).mono ?_; rintro e w1 ⟨rfl,hb1⟩; obtain ⟨hcc,hff⟩:=bcell hb1));have HB1:=Lib.hid (HB.out.drew.trans (hb1.mono (by have:=HB.out.size; simp; omega)))
         have HBX:Hid (w1.cell? ⟨w.heap.size,0,none⟩=some (.slice (some ⟨b,off,none⟩) k c)):=(hb1.cell (p:=⟨w.heap.size,0,none⟩) (by simp; omega)).trans hbox
         have hgl1:w.heap.size<w1.heap.size:=by have:=hb1.size; simp at this; omega
         replace o0:=(hb1.cell (p:=⟨b,off,none⟩) (by simp; omega)).trans o0
         replace o1:=(hb1.cell (p:=⟨b,off+1,none⟩) (by simp; omega)).trans o1
         replace x0:=(hb1.cell (p:=⟨b,off+j*2,none⟩) (by simp; omega)).trans x0
         replace x1:=(hb1.cell (p:=⟨b,off+j*2+1,none⟩) (by simp; omega)).trans x1
         replace v0:=(hb1.cell (p:=⟨b,off+(j+1)*2,none⟩) (by simp; omega)).trans v0
         replace v1:=(hb1.cell (p:=⟨b,off+(j+1)*2+1,none⟩) (by simp; omega)).trans v1
         replace hbox:=HBX.out
         clear hcc hff hb1 y0 y1 z0 z1;go_wp2;go_region_held3 (fun w'=>w'.cell? ⟨w.heap.size,0,none⟩=some (.slice (some ⟨b,off,none⟩) k c)∧(w'.cell? ⟨b,off,none⟩=some (.int .i64 (nth zs 0))∧w'.cell? ⟨b,off+1,none⟩=some (.int .i64 (nth zs 1)))∧(w'.cell? ⟨b,off+j*2,none⟩=some (.int .i64 (nth zs (j*2)))∧w'.cell? ⟨b,off+j*2+1,none⟩=some (.int .i64 (nth zs (j*2+1))))∧(w'.cell? ⟨b,off+(j+1)*2,none⟩=some (.int .i64 (nth zs ((j+1)*2)))∧w'.cell? ⟨b,off+(j+1)*2+1,none⟩=some (.int .i64 (nth zs ((j+1)*2+1))))) (first | (simp [*]; done) | (refine ⟨?_,⟨?_,?_⟩,⟨?_,?_⟩,⟨?_,?_⟩⟩ <;> (rw [hcc _ _ (by simp <;> omega)]; simp [*]))) ((go_at_call 170; refine (l02Side_any _ _ _ _ _ _ _ hp0 hpk hpn).mono ?_; rintro e w2 ⟨rfl,hb2⟩; obtain ⟨hcc,hff⟩:=bcell hb2));have HB2:=Lib.hid (HB1.out.drew.trans (hb2.mono (by have:=HB1.out.size; simp; omega)))
         have HBX2:Hid (w2.cell? ⟨w.heap.size,0,none⟩=some (.slice (some ⟨b,off,none⟩) k c)):=(hb2.cell (p:=⟨w.heap.size,0,none⟩) (by simp; omega)).trans HBX.out
         clear hcc hff hb2;clear i13 r1 r2 i1 i2 i3 i4;go_wp2;go_roundw
         case rel=>exact ⟨j+1,by omega,by go_num,HS.out,HBX2.out,HB2.out⟩
         case measure=>first | (simp [intOf]; done) | (simp [intOf]; omega)
       ·have HS:=Lib.hid (turnTo_step hag (HTC.out hpos hlast))
        have i11:¬ (j:Int)+1<(k:Int):=by omega
        rw [hsd] at hneg hpos;clear hsd;go_wp2;go_region_held3 (fun w'=>w'.cell? ⟨w.heap.size,0,none⟩=some (.slice (some ⟨b,off,none⟩) k c)∧(w'.cell? ⟨b,off+j*2,none⟩=some (.int .i64 (nth zs (j*2)))∧w'.cell? ⟨b,off+j*2+1,none⟩=some (.int .i64 (nth zs (j*2+1))))∧(w'.cell? ⟨b,off+j1*2,none⟩=some (.int .i64 (nth zs (j1*2)))∧w'.cell? ⟨b,off+j1*2+1,none⟩=some (.int .i64 (nth zs (j1*2+1))))∧(w'.cell? ⟨b,off+j2*2,none⟩=some (.int .i64 (nth zs (j2*2)))∧w'.cell? ⟨b,off+j2*2+1,none⟩=some (.int .i64 (nth zs (j2*2+1))))) (first | (simp [*]; done) | (refine ⟨?_,⟨?_,?_⟩,⟨?_,?_⟩,⟨?_,?_⟩⟩ <;> (rw [hcc _ _ (by simp <;> omega)]; simp [*]))) ((go_at_call 170; refine (l02Side_any _ _ _ _ _ _ _ hpk hp1 hp2).mono ?_; rintro e w1 ⟨rfl,hb1⟩; obtain ⟨hcc,hff⟩:=bcell hb1));have HB1:=Lib.hid (HB.out.drew.trans (hb1.mono (by have:=HB.out.size; simp; omega)))
        have HBX:Hid (w1.cell? ⟨w.heap.size,0,none⟩=some (.slice (some ⟨b,off,none⟩) k c)):=(hb1.cell (p:=⟨w.heap.size,0,none⟩) (by simp; omega)).trans hbox
        have hgl1:w.heap.size<w1.heap.size:=by have:=hb1.size; simp at this; omega
        clear hcc hff hb1 x0 x1 y0 y1 z0 z1 hbox;go_wp2;refine wp_region_held_drew (S:=fun _=>True) (by kernel_rfl) trivial (fun _ => ?_);refine take_held (i:=0) (d:=52) rfl rfl ?_;try simp only [Act.put,ly3]
        refine take_held (i:=1) (d:=53) rfl rfl ?_;try simp only [Act.put,ly3]
        refine take_held (i:=2) (d:=54) rfl rfl ?_;try simp only [Act.put,ly3]
        refine take_held (i:=3) (d:=55) (v := .bool false) rfl rfl ?_;try simp only [Act.put,ly3]
        refine take_held (i:=4) (d:=56) (v := .bool false) rfl rfl ?_;try simp only [Act.put,ly3]
        refine skip_held (i:=5) (d:=57) rfl rfl ?_;try simp only [Act.put,ly3]
        refine skip_held (i:=6) (d:=58) rfl rfl ?_;try simp only [Act.put,ly3]
        refine skip_held (i:=7) (d:=59) rfl rfl ?_;try simp only [Act.put,ly3]
        refine skip_held (i:=8) (d:=60) rfl rfl ?_;try simp only [Act.put,ly3]
        refine skip_held (i:=9) (d:=61) rfl rfl ?_;try simp only [Act.put,ly3]
        refine skip_held (i:=10) (d:=62) rfl rfl ?_;try simp only [Act.put,ly3]
        refine skip_held (i:=11) (d:=63) rfl rfl ?_;try simp only [Act.put,ly3]
        refine skip_held (i:=12) (d:=64) rfl rfl ?_;try simp only [Act.put,ly3]
        refine skip_held (i:=13) (d:=65) rfl rfl ?_;try simp only [Act.put,ly3]
        refine skip_held (i:=14) (d:=66) rfl rfl ?_;try simp only [Act.put,ly3]
        refine skip_held (i:=15) (d:=67) rfl rfl ?_;try simp only [Act.put,ly3]
        refine skip_held (i:=16) (d:=68) rfl rfl ?_;try simp only [Act.put,ly3]
        refine skip_held (i:=17) (d:=69) rfl rfl ?_;try simp only [Act.put,ly3]
        refine skip_held (i:=18) (d:=70) rfl rfl ?_;try simp only [Act.put,ly3]
        refine skip_held (i:=19) (d:=71) rfl rfl ?_;try simp only [Act.put,ly3]
        refine skip_held (i:=20) (d:=72) rfl rfl ?_;try simp only [Act.put,ly3]
        refine skip_held (i:=21) (d:=73) rfl rfl ?_;try simp only [Act.put,ly3]
        refine take_held (i:=22) (d:=74) rfl rfl ?_;try simp only [Act.put,ly3]
        refine wpAnyH_done (by kernel_rfl) ?_ _;clear r1 r2 i1 i2 i3 i4;go_wp2;go_roundw
        case rel=>exact ⟨j+1,by omega,by go_num,HS.out,HBX.out,HB1.out.drew⟩
        case measure=>first | (simp [intOf]; done) | (simp [intOf]; omega)
     ·obtain rfl:j=k:=by omega
      have HF:=Lib.hid (stoneB_t hB HPT.out hag);clear hb;go_wp2;go_ret;exact ⟨ret_bool HF.out.symm,HB.out⟩
end X
end Go.Proofs.YtpblihmhpalkfaaGreat
