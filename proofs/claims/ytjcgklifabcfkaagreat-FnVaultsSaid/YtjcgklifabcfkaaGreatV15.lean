/-
  Texts that the law stands on, part 15.
-/
import Derived.Test.YtjcgklifabcfkaaGreatV1
import Derived.Test.YtjcgklifabcfkaaGreatV14
import Derived.Test.YtjcgklifabcfkaaGreatV10
import Derived.Test.YtjcgklifabcfkaaGreatProg
import Derived.KernelRfl
import Derived.WalkKit
import Derived.Outline
set_option maxRecDepth 100000
set_option linter.unusedVariables false
set_option linter.unusedSimpArgs false
section
namespace Go.Proofs.Tryzx
def rd3 : Code := (.region 7 #[{ dst := some 9, op := .call { callee := .value (.func 68), args := #[.tmp 0], argTypes := #[103] }, type := 71, pos := "", after := #[], guard := none }] false)
def rd4 : Code := (.region 8 #[{ dst := some 10, op := .call { callee := .builtin .append, args := #[.const (.slice none 0 0), .tmp 9], argTypes := #[71, 71] }, type := 71, pos := "", after := #[], guard := none }] false)
def bodyX : Code := .seq (.seq (.region 0 #[{ dst := some 1, op := .move (.const (.int .i64 0)), type := 3, pos := "", after := #[], guard := none }, { dst := some 2, op := .call { callee := .builtin .len, args := #[.tmp 0], argTypes := #[103] }, type := 3, pos := "", after := #[], guard := none }, { dst := some 3, op := .binOp .lss 3 (.tmp 2) (.const (.int .i64 1048577)) 3, type := 4, pos := "", after := #[{ on := 1, ground := .data }], guard := none }] false) (.seq (.cond (.tmp 3) .skip (.exit 9)) (.seq (.block 0 (.loop (.seq (.region 1 #[{ dst := some 4, op := .binOp .lss 3 (.tmp 1) (.tmp 2) 3, type := 4, pos := "", after := #[], guard := none }] false) (.seq (.cond (.tmp 4) .skip (.exit 0)) (.seq (.region 2 #[{ dst := some 5, op := .indexAddr 103 (.tmp 0) (.tmp 1), type := 0, pos := "", after := #[], guard := none }, { dst := some 6, op := .fieldAddr 133 (.tmp 5) 0, type := 0, pos := "", after := #[{ on := 0, ground := .data }], guard := none }, { dst := some 7, op := .load 3 (.tmp 6), type := 3, pos := "", after := #[{ on := 1, ground := .data }], guard := none }, { dst := some 8, op := .binOp .mul 3 (.tmp 7) (.const (.int .i64 1)) 3, type := 3, pos := "", after := #[{ on := 2, ground := .data }], guard := none }] false) (.seq (.region 3 #[{ dst := some 5, op := .indexAddr 103 (.tmp 0) (.tmp 1), type := 0, pos := "", after := #[], guard := none }, { dst := some 6, op := .fieldAddr 133 (.tmp 5) 1, type := 0, pos := "", after := #[{ on := 0, ground := .data }], guard := none }, { dst := some 7, op := .load 3 (.tmp 6), type := 3, pos := "", after := #[{ on := 1, ground := .data }], guard := none }, { dst := some 8, op := .binOp .mul 3 (.tmp 7) (.const (.int .i64 1)) 3, type := 3, pos := "", after := #[{ on := 2, ground := .data }], guard := none }] false) (.seq (.region 4 #[{ dst := some 5, op := .indexAddr 103 (.tmp 0) (.tmp 1), type := 0, pos := "", after := #[], guard := none }, { dst := some 6, op := .fieldAddr 133 (.tmp 5) 2, type := 0, pos := "", after := #[{ on := 0, ground := .data }], guard := none }, { dst := some 7, op := .load 3 (.tmp 6), type := 3, pos := "", after := #[{ on := 1, ground := .data }], guard := none }, { dst := some 8, op := .binOp .mul 3 (.tmp 7) (.const (.int .i64 1)) 3, type := 3, pos := "", after := #[{ on := 2, ground := .data }], guard := none }] false) (.seq (.region 5 #[{ dst := some 5, op := .indexAddr 103 (.tmp 0) (.tmp 1), type := 0, pos := "", after := #[], guard := none }, { dst := some 6, op := .fieldAddr 133 (.tmp 5) 3, type := 0, pos := "", after := #[{ on := 0, ground := .data }], guard := none }, { dst := some 7, op := .load 3 (.tmp 6), type := 3, pos := "", after := #[{ on := 1, ground := .data }], guard := none }, { dst := some 8, op := .binOp .mul 3 (.tmp 7) (.const (.int .i64 1)) 3, type := 3, pos := "", after := #[{ on := 2, ground := .data }], guard := none }] false) (.region 6 #[{ dst := some 1, op := .binOp .add 3 (.tmp 1) (.const (.int .i64 1)) 3, type := 3, pos := "", after := #[], guard := none }] false))))))))) (.seq (.region 9 #[{ dst := some 11, op := .binOp .eql 3 (.tmp 2) (.const (.int .i64 0)) 3, type := 4, pos := "", after := #[], guard := none }] false) (.cond (.tmp 11) (.seq (.region 10 #[{ dst := some 12, op := .binOp .eql 103 (.tmp 0) (.const (.slice none 0 0)) 103, type := 4, pos := "", after := #[], guard := none }] false) (.cond (.tmp 12) .skip (.exit 9))) .skip))))) (.seq (.region 7 #[{ dst := some 9, op := .call { callee := .value (.func 68), args := #[.tmp 0], argTypes := #[103] }, type := 71, pos := "", after := #[], guard := none }] false) (.seq (.region 8 #[{ dst := some 10, op := .call { callee := .builtin .append, args := #[.const (.slice none 0 0), .tmp 9], argTypes := #[71, 71] }, type := 71, pos := "", after := #[], guard := none }] false) .ret))
noncomputable def f87 : Func := { name := Tryz.f87.name, origin := "", params := #[103], resultTypes := #[71], nfree := 0, ntmps := 13, results := #[.tmp 10], body := some bodyX, norace := false, tmpNames := #[] }
noncomputable def funcs:Array Func :=
(([Tryz.f0,Tryz.f1,Tryz.f2,Tryz.f3,Tryz.f4,Tryz.f5,
      Tryz.f6,Tryz.f7,Tryz.f8,Tryz.f9,Tryz.f10,
      Tryz.f11,Tryz.f12,Tryz.f13,Tryz.f14,Tryz.f15,
      Tryz.f16,Tryz.f17,Tryz.f18,Tryz.f19,Tryz.f20,
      Tryz.f21,Tryz.f22,Tryz.f23,Tryz.f24,Tryz.f25,
      Tryz.f26,Tryz.f27,Tryz.f28,Tryz.f29,Tryz.f30,
      Tryz.f31,Tryz.f32,Tryz.f33,Tryz.f34,Tryz.f35,
      Tryz.f36,Tryz.f37,Tryz.f38,Tryz.f39,Tryz.f40,
      Tryz.f41,Tryz.f42,Tryz.f43,Tryz.f44,Tryz.f45,
      Tryz.f46].append
    [Tryz.f47,Tryz.f48,Tryz.f49,Tryz.f50,Tryz.f51,
     Tryz.f52,Tryz.f53,Tryz.f54,Tryz.f55,Tryz.f56,
     Tryz.f57,Tryz.f58,Tryz.f59,Tryz.f60,Tryz.f61,
     Tryz.f62,Tryz.f63,Tryz.f64,Tryz.f65,Tryz.f66,
     Tryz.f67,Tryz.f68,Tryz.f69,Tryz.f70,Tryz.f71,
     Tryz.f72,Tryz.f73,Tryz.f74,Tryz.f75,Tryz.f76,
     Tryz.f77,Tryz.f78,Tryz.f79,Tryz.f80,Tryz.f81,
     Tryz.f82,Tryz.f83,Tryz.f84,Tryz.f85,Tryz.f86,
     f87,Tryz.f88,Tryz.f89,Tryz.f90,Tryz.f91,
     Tryz.f92,Tryz.f93,Tryz.f94]).append
  ([Tryz.f95,Tryz.f96,Tryz.f97,Tryz.f98,Tryz.f99,
     Tryz.f100,Tryz.f101,Tryz.f102,Tryz.f103,Tryz.f104,
     Tryz.f105,Tryz.f106,Tryz.f107,Tryz.f108,Tryz.f109,
     Tryz.f110,Tryz.f111,Tryz.f112,Tryz.f113,Tryz.f114,
     Tryz.f115,Tryz.f116,Tryz.f117,Tryz.f118,Tryz.f119,
     Tryz.f120,Tryz.f121,Tryz.f122,Tryz.f123,Tryz.f124,
     Tryz.f125,Tryz.f126,Tryz.f127,Tryz.f128,Tryz.f129,
     Tryz.f130,Tryz.f131,Tryz.f132,Tryz.f133,Tryz.f134,
     Tryz.f135,Tryz.f136,Tryz.f137,Tryz.f138,Tryz.f139,
     Tryz.f140,Tryz.f141].append
   [Tryz.f142,Tryz.f143,Tryz.f144,Tryz.f145,Tryz.f146,
    Tryz.f147,Tryz.f148,Tryz.f149,Tryz.f150,Tryz.f151,
    Tryz.f152,Tryz.f153,Tryz.f154,Tryz.f155,Tryz.f156,
    Tryz.f157,Tryz.f158,Tryz.f159,Tryz.f160,Tryz.f161,
    Tryz.f162,Tryz.f163,Tryz.f164,Tryz.f165,Tryz.f166,
    Tryz.f167,Tryz.f168,Tryz.f169,Tryz.f170,Tryz.f171,
    Tryz.f172,Tryz.f173,Tryz.f174,Tryz.f175,Tryz.f176,
    Tryz.f177,Tryz.f178,Tryz.f179,Tryz.f180,Tryz.f181,
    Tryz.f182,Tryz.f183,Tryz.f184,Tryz.f185,Tryz.f186,
    Tryz.f187,Tryz.f188,Tryz.f189])).toArray
noncomputable def prog:Program := { toTables:=Tryz.progTables,funcs:=funcs }
theorem under_tb {p q:Program} (h:p.toTables=q.toTables) (t:TypeId):p.underlying t=q.underlying t:=by
 cases p; cases q; simp only at h; subst h; rfl
theorem depth_tb {p q:Program} (h:p.toTables=q.toTables):p.depth=q.depth:=by
 cases p; cases q; simp only at h; subst h; rfl
theorem tables_eq:prog.toTables=Tryz.prog.toTables:=rfl
@[simp] theorem info_x (t:TypeId):prog.info? t=Tryz.prog.info? t:=rfl
@[simp] theorem underlying_x (t:TypeId):prog.underlying t=Tryz.prog.underlying t:=under_tb tables_eq t
@[simp] theorem depth_x:prog.depth=Tryz.prog.depth:=depth_tb tables_eq
@[simp] theorem run_underlying_x (t:TypeId) (w:World):Sem.run prog (underlying t) w=Sem.run Tryz.prog (underlying t) w:=by
 simp only [underlying,program,Bind.bind,Sem.bind,Sem.run,underlying_x];cases Tryz.prog.underlying t <;> rfl
@[simp] theorem sizeOf_x (t:TypeId) (w:World):Sem.run prog (sizeOf t) w=Sem.run Tryz.prog (sizeOf t) w:=by
 simp only [sizeOf,typeInfo,program,Bind.bind,Sem.bind,Sem.run,info_x];cases Tryz.prog.info? t <;> rfl
@[simp] theorem isAgg_x (t:TypeId) (w:World):Sem.run prog (isAgg t) w=Sem.run Tryz.prog (isAgg t) w:=by
 simp only [isAgg,underlying,program,Bind.bind,Sem.bind,Sem.run,underlying_x];cases Tryz.prog.underlying t with
 | none=>rfl
 | some d=>cases d <;> rfl
@[simp] theorem zeroValue_x (t:TypeId) (w:World):Sem.run prog (zeroValue t) w=Sem.run Tryz.prog (zeroValue t) w:=by
 simp only [zeroValue,typeInfo,program,Bind.bind,Sem.bind,Sem.run,info_x];cases Tryz.prog.info? t with
 | none=>rfl
 | some i=>cases h:i.zero <;> simp [h,Sem.bind,Sem.run,pure,unsupported]
@[simp] theorem eqGuardType_x:∀ (d:Nat) (t:TypeId),prog.eqGuardType d t=Tryz.prog.eqGuardType d t
 | 0,_=>rfl
 | d+1,t=>by
  unfold Program.eqGuardType;simp only [underlying_x,eqGuardType_x d]
theorem func4:prog.funcs[4]?=some Tryz.f4:=by kernel_rfl
theorem func10:prog.funcs[10]?=some Tryz.f10:=by kernel_rfl
theorem func12:prog.funcs[12]?=some Tryz.f12:=by kernel_rfl
theorem func13:prog.funcs[13]?=some Tryz.f13:=by kernel_rfl
theorem func14:prog.funcs[14]?=some Tryz.f14:=by kernel_rfl
theorem func15:prog.funcs[15]?=some Tryz.f15:=by kernel_rfl
theorem func16:prog.funcs[16]?=some Tryz.f16:=by kernel_rfl
theorem func17:prog.funcs[17]?=some Tryz.f17:=by kernel_rfl
theorem func18:prog.funcs[18]?=some Tryz.f18:=by kernel_rfl
theorem func19:prog.funcs[19]?=some Tryz.f19:=by kernel_rfl
theorem func20:prog.funcs[20]?=some Tryz.f20:=by kernel_rfl
theorem func21:prog.funcs[21]?=some Tryz.f21:=by kernel_rfl
theorem func35:prog.funcs[35]?=some Tryz.f35:=by kernel_rfl
theorem func36:prog.funcs[36]?=some Tryz.f36:=by kernel_rfl
theorem func37:prog.funcs[37]?=some Tryz.f37:=by kernel_rfl
theorem func38:prog.funcs[38]?=some Tryz.f38:=by kernel_rfl
theorem func39:prog.funcs[39]?=some Tryz.f39:=by kernel_rfl
theorem func40:prog.funcs[40]?=some Tryz.f40:=by kernel_rfl
theorem func41:prog.funcs[41]?=some Tryz.f41:=by kernel_rfl
theorem func42:prog.funcs[42]?=some Tryz.f42:=by kernel_rfl
theorem func43:prog.funcs[43]?=some Tryz.f43:=by kernel_rfl
theorem func44:prog.funcs[44]?=some Tryz.f44:=by kernel_rfl
theorem func45:prog.funcs[45]?=some Tryz.f45:=by kernel_rfl
theorem func46:prog.funcs[46]?=some Tryz.f46:=by kernel_rfl
theorem func52:prog.funcs[52]?=some Tryz.f52:=by kernel_rfl
theorem func53:prog.funcs[53]?=some Tryz.f53:=by kernel_rfl
theorem func58:prog.funcs[58]?=some Tryz.f58:=by kernel_rfl
theorem func59:prog.funcs[59]?=some Tryz.f59:=by kernel_rfl
theorem func60:prog.funcs[60]?=some Tryz.f60:=by kernel_rfl
theorem func61:prog.funcs[61]?=some Tryz.f61:=by kernel_rfl
theorem func62:prog.funcs[62]?=some Tryz.f62:=by kernel_rfl
theorem func63:prog.funcs[63]?=some Tryz.f63:=by kernel_rfl
theorem func64:prog.funcs[64]?=some Tryz.f64:=by kernel_rfl
theorem func65:prog.funcs[65]?=some Tryz.f65:=by kernel_rfl
theorem func66:prog.funcs[66]?=some Tryz.f66:=by kernel_rfl
theorem func67:prog.funcs[67]?=some Tryz.f67:=by kernel_rfl
theorem func68:prog.funcs[68]?=some Tryz.f68:=by kernel_rfl
theorem func69:prog.funcs[69]?=some Tryz.f69:=by kernel_rfl
theorem func70:prog.funcs[70]?=some Tryz.f70:=by kernel_rfl
theorem func71:prog.funcs[71]?=some Tryz.f71:=by kernel_rfl
theorem func72:prog.funcs[72]?=some Tryz.f72:=by kernel_rfl
theorem func73:prog.funcs[73]?=some Tryz.f73:=by kernel_rfl
theorem func74:prog.funcs[74]?=some Tryz.f74:=by kernel_rfl
theorem func79:prog.funcs[79]?=some Tryz.f79:=by kernel_rfl
theorem func84:prog.funcs[84]?=some Tryz.f84:=by kernel_rfl
theorem func85:prog.funcs[85]?=some Tryz.f85:=by kernel_rfl
theorem func86:prog.funcs[86]?=some Tryz.f86:=by kernel_rfl
theorem func87:prog.funcs[87]?=some f87:=by kernel_rfl
theorem func88:prog.funcs[88]?=some Tryz.f88:=by kernel_rfl
theorem func89:prog.funcs[89]?=some Tryz.f89:=by kernel_rfl
theorem func90:prog.funcs[90]?=some Tryz.f90:=by kernel_rfl
theorem func91:prog.funcs[91]?=some Tryz.f91:=by kernel_rfl
theorem func92:prog.funcs[92]?=some Tryz.f92:=by kernel_rfl
theorem func93:prog.funcs[93]?=some Tryz.f93:=by kernel_rfl
theorem func94:prog.funcs[94]?=some Tryz.f94:=by kernel_rfl
theorem func95:prog.funcs[95]?=some Tryz.f95:=by kernel_rfl
theorem func96:prog.funcs[96]?=some Tryz.f96:=by kernel_rfl
theorem func97:prog.funcs[97]?=some Tryz.f97:=by kernel_rfl
theorem func98:prog.funcs[98]?=some Tryz.f98:=by kernel_rfl
theorem func99:prog.funcs[99]?=some Tryz.f99:=by kernel_rfl
theorem func100:prog.funcs[100]?=some Tryz.f100:=by kernel_rfl
theorem func104:prog.funcs[104]?=some Tryz.f104:=by kernel_rfl
theorem func111:prog.funcs[111]?=some Tryz.f111:=by kernel_rfl
theorem func112:prog.funcs[112]?=some Tryz.f112:=by kernel_rfl
theorem func113:prog.funcs[113]?=some Tryz.f113:=by kernel_rfl
theorem func114:prog.funcs[114]?=some Tryz.f114:=by kernel_rfl
theorem func115:prog.funcs[115]?=some Tryz.f115:=by kernel_rfl
theorem func116:prog.funcs[116]?=some Tryz.f116:=by kernel_rfl
theorem func117:prog.funcs[117]?=some Tryz.f117:=by kernel_rfl
theorem func118:prog.funcs[118]?=some Tryz.f118:=by kernel_rfl
theorem func119:prog.funcs[119]?=some Tryz.f119:=by kernel_rfl
theorem func120:prog.funcs[120]?=some Tryz.f120:=by kernel_rfl
theorem func121:prog.funcs[121]?=some Tryz.f121:=by kernel_rfl
theorem func123:prog.funcs[123]?=some Tryz.f123:=by kernel_rfl
theorem func124:prog.funcs[124]?=some Tryz.f124:=by kernel_rfl
theorem func146:prog.funcs[146]?=some Tryz.f146:=by kernel_rfl
theorem func147:prog.funcs[147]?=some Tryz.f147:=by kernel_rfl
theorem func148:prog.funcs[148]?=some Tryz.f148:=by kernel_rfl
theorem func149:prog.funcs[149]?=some Tryz.f149:=by kernel_rfl
theorem func150:prog.funcs[150]?=some Tryz.f150:=by kernel_rfl
theorem func151:prog.funcs[151]?=some Tryz.f151:=by kernel_rfl
theorem func152:prog.funcs[152]?=some Tryz.f152:=by kernel_rfl
theorem func153:prog.funcs[153]?=some Tryz.f153:=by kernel_rfl
theorem func154:prog.funcs[154]?=some Tryz.f154:=by kernel_rfl
theorem func155:prog.funcs[155]?=some Tryz.f155:=by kernel_rfl
theorem func156:prog.funcs[156]?=some Tryz.f156:=by kernel_rfl
theorem func167:prog.funcs[167]?=some Tryz.f167:=by kernel_rfl
theorem func168:prog.funcs[168]?=some Tryz.f168:=by kernel_rfl
theorem func169:prog.funcs[169]?=some Tryz.f169:=by kernel_rfl
theorem func170:prog.funcs[170]?=some Tryz.f170:=by kernel_rfl
theorem func172:prog.funcs[172]?=some Tryz.f172:=by kernel_rfl
theorem ntmps87:f87.ntmps=13:=rfl
attribute [simp] func4 func10 func12 func13 func14 func15 func16 func17 func18 func19 func20 func21 func35 func36 func37 func38 func39 func40 func41 func42 func43 func44 func45 func46 func52 func53 func58 func59 func60 func61 func62 func63 func64 func65 func66 func67 func68 func69 func70 func71 func72 func73 func74 func79 func84 func85 func86 func87 func88 func89 func90 func91 func92 func93 func94 func95 func96 func97 func98 func99 func100 func104 func111 func112 func113 func114 func115 func116 func117 func118 func119 func120 func121 func123 func124 func146 func147 func148 func149 func150 func151 func152 func153 func154 func155 func156 func167 func168 func169 func170 func172 ntmps87
@[simp] theorem stoodInHeld66:prog.stoodInHeld 66=false:=by kernel_rfl
@[simp] theorem stoodInHeld149:prog.stoodInHeld 149=false:=by kernel_rfl
@[simp] theorem stoodInHeld65:prog.stoodInHeld 65=false:=by kernel_rfl
@[simp] theorem stoodInHeld152:prog.stoodInHeld 152=false:=by kernel_rfl
@[simp] theorem stoodInHeld8:prog.stoodInHeld 8=false:=by kernel_rfl
@[simp] theorem stoodInHeld95:prog.stoodInHeld 95=false:=by kernel_rfl
@[simp] theorem stoodInHeld142:prog.stoodInHeld 142=false:=by kernel_rfl
@[simp] theorem stoodInHeld13:prog.stoodInHeld 13=true:=by kernel_rfl
@[simp] theorem stoodInHeld214:prog.stoodInHeld 214=true:=by kernel_rfl
@[simp] theorem stoodInHeld211:prog.stoodInHeld 211=true:=by kernel_rfl
@[simp] theorem stoodInHeld45:prog.stoodInHeld 45=false:=by kernel_rfl
@[simp] theorem stoodInHeld44:prog.stoodInHeld 44=false:=by kernel_rfl
@[simp] theorem stoodInHeld110:prog.stoodInHeld 110=false:=by kernel_rfl
@[simp] theorem stoodInHeld19:prog.stoodInHeld 19=true:=by kernel_rfl
@[simp] theorem stoodInHeld107:prog.stoodInHeld 107=false:=by kernel_rfl
@[simp] theorem stoodInHeld30:prog.stoodInHeld 30=false:=by kernel_rfl
@[simp] theorem stoodInHeld25:prog.stoodInHeld 25=false:=by kernel_rfl
@[simp] theorem stoodInHeld157:prog.stoodInHeld 157=false:=by kernel_rfl
@[simp] theorem stoodInHeld212:prog.stoodInHeld 212=true:=by kernel_rfl
@[simp] theorem stoodInHeld143:prog.stoodInHeld 143=false:=by kernel_rfl
@[simp] theorem stoodInHeld224:prog.stoodInHeld 224=true:=by kernel_rfl
@[simp] theorem stoodInHeld138:prog.stoodInHeld 138=false:=by kernel_rfl
@[simp] theorem stoodInHeld83:prog.stoodInHeld 83=false:=by kernel_rfl
@[simp] theorem stoodInHeld24:prog.stoodInHeld 24=false:=by kernel_rfl
@[simp] theorem stoodInHeld154:prog.stoodInHeld 154=false:=by kernel_rfl
@[simp] theorem stoodInHeld139:prog.stoodInHeld 139=false:=by kernel_rfl
@[simp] theorem stoodInHeld31:prog.stoodInHeld 31=false:=by kernel_rfl
@[simp] theorem stoodInHeld155:prog.stoodInHeld 155=false:=by kernel_rfl
@[simp] theorem stoodInHeld158:prog.stoodInHeld 158=false:=by kernel_rfl
@[simp] theorem stoodInHeld144:prog.stoodInHeld 144=false:=by kernel_rfl
@[simp] theorem stoodInHeld151:prog.stoodInHeld 151=false:=by kernel_rfl
@[simp] theorem stoodInHeld119:prog.stoodInHeld 119=false:=by kernel_rfl
@[simp] theorem stoodInHeld126:prog.stoodInHeld 126=false:=by kernel_rfl
@[simp] theorem stoodInHeld215:prog.stoodInHeld 215=true:=by kernel_rfl
@[simp] theorem stoodInHeld150:prog.stoodInHeld 150=false:=by kernel_rfl
@[simp] theorem stoodInHeld7:prog.stoodInHeld 7=false:=by kernel_rfl
@[simp] theorem stoodInHeld127:prog.stoodInHeld 127=false:=by kernel_rfl
@[simp] theorem stoodInHeld109:prog.stoodInHeld 109=false:=by kernel_rfl
@[simp] theorem stoodInHeld132:prog.stoodInHeld 132=false:=by kernel_rfl
@[simp] theorem stoodInHeld108:prog.stoodInHeld 108=false:=by kernel_rfl
@[simp] theorem stoodInHeld77:prog.stoodInHeld 77=false:=by kernel_rfl
@[simp] theorem stoodInHeld223:prog.stoodInHeld 223=true:=by kernel_rfl
@[simp] theorem stoodInHeld14:prog.stoodInHeld 14=true:=by kernel_rfl
@[simp] theorem stoodInHeld133:prog.stoodInHeld 133=false:=by kernel_rfl
@[simp] theorem stoodInHeld76:prog.stoodInHeld 76=false:=by kernel_rfl
@[simp] theorem stoodInHeld82:prog.stoodInHeld 82=false:=by kernel_rfl
@[simp] theorem stoodInHeld18:prog.stoodInHeld 18=true:=by kernel_rfl
@[simp] theorem stoodInHeld96:prog.stoodInHeld 96=false:=by kernel_rfl
theorem underlying4:prog.underlying 4=some Go.TypeDesc.bool:=(underlying_x 4).trans Tryz.underlying4
theorem underlying5:prog.underlying 5=some (Go.TypeDesc.int Go.IntKind.u8):=(underlying_x 5).trans Tryz.underlying5
theorem underlying28:prog.underlying 28=some (Go.TypeDesc.slice 45):=(underlying_x 28).trans Tryz.underlying28
theorem underlying29:prog.underlying 29=some (Go.TypeDesc.slice 46):=(underlying_x 29).trans Tryz.underlying29
theorem underlying35:prog.underlying 35=some (Go.TypeDesc.slice 5):=(underlying_x 35).trans Tryz.underlying35
theorem underlying38:prog.underlying 38=some (Go.TypeDesc.slice 3):=(underlying_x 38).trans Tryz.underlying38
theorem underlying43:prog.underlying 43=some (Go.TypeDesc.slice 110):=(underlying_x 43).trans Tryz.underlying43
theorem underlying46:prog.underlying 46=some (Go.TypeDesc.slice 77):=(underlying_x 46).trans Tryz.underlying46
theorem underlying64:prog.underlying 64=some (Go.TypeDesc.chan Go.ChanDir.both 3):=(underlying_x 64).trans Tryz.underlying64
theorem underlying71:prog.underlying 71=some (Go.TypeDesc.slice 66):=(underlying_x 71).trans Tryz.underlying71
theorem underlying103:prog.underlying 103=some (Go.TypeDesc.slice 133):=(underlying_x 103).trans Tryz.underlying103
theorem underlying133 : prog.underlying 133 = some (Go.TypeDesc.struct #[{ name := "A", type := 3, offset := 0, embedded := false, tag := "", pkgPath := "", byteOffset := 0 }, { name := "B", type := 3, offset := 1, embedded := false, tag := "", pkgPath := "", byteOffset := 8 }, { name := "C", type := 3, offset := 2, embedded := false, tag := "", pkgPath := "", byteOffset := 16 }, { name := "D", type := 3, offset := 3, embedded := false, tag := "", pkgPath := "", byteOffset := 24 }]) := (underlying_x 133).trans Tryz.underlying133
theorem underlying162:prog.underlying 162=some (Go.TypeDesc.slice 139):=(underlying_x 162).trans Tryz.underlying162
theorem call_x (k : Nat) (args : Array Value) (w : World) {fn : Func} (hf : prog.funcs[k]? = some fn) (hn : (fn.name == "runtime.NumGoroutine") = false := by kernel_rfl) (hb : fn.body.isNone = false := by kernel_rfl) : Sem.run prog (callFunc k args) w = .ok (.enter k args) w := by
 simp only [callFunc, program, Bind.bind, Sem.bind, Sem.run, hf, hn, hb, Bool.false_eq_true, if_false];rfl
@[simp] theorem call4 (args w):Sem.run prog (callFunc 4 args) w = .ok (.enter 4 args) w:=call_x 4 args w func4
@[simp] theorem call10 (args w):Sem.run prog (callFunc 10 args) w = .ok (.enter 10 args) w:=call_x 10 args w func10
@[simp] theorem call12 (args w):Sem.run prog (callFunc 12 args) w = .ok (.enter 12 args) w:=call_x 12 args w func12
@[simp] theorem call13 (args w):Sem.run prog (callFunc 13 args) w = .ok (.enter 13 args) w:=call_x 13 args w func13
@[simp] theorem call14 (args w):Sem.run prog (callFunc 14 args) w = .ok (.enter 14 args) w:=call_x 14 args w func14
@[simp] theorem call15 (args w):Sem.run prog (callFunc 15 args) w = .ok (.enter 15 args) w:=call_x 15 args w func15
@[simp] theorem call16 (args w):Sem.run prog (callFunc 16 args) w = .ok (.enter 16 args) w:=call_x 16 args w func16
@[simp] theorem call17 (args w):Sem.run prog (callFunc 17 args) w = .ok (.enter 17 args) w:=call_x 17 args w func17
@[simp] theorem call18 (args w):Sem.run prog (callFunc 18 args) w = .ok (.enter 18 args) w:=call_x 18 args w func18
@[simp] theorem call19 (args w):Sem.run prog (callFunc 19 args) w = .ok (.enter 19 args) w:=call_x 19 args w func19
@[simp] theorem call20 (args w):Sem.run prog (callFunc 20 args) w = .ok (.enter 20 args) w:=call_x 20 args w func20
@[simp] theorem call21 (args w):Sem.run prog (callFunc 21 args) w = .ok (.enter 21 args) w:=call_x 21 args w func21
@[simp] theorem call35 (args w):Sem.run prog (callFunc 35 args) w = .ok (.enter 35 args) w:=call_x 35 args w func35
@[simp] theorem call36 (args w):Sem.run prog (callFunc 36 args) w = .ok (.enter 36 args) w:=call_x 36 args w func36
@[simp] theorem call37 (args w):Sem.run prog (callFunc 37 args) w = .ok (.enter 37 args) w:=call_x 37 args w func37
@[simp] theorem call38 (args w):Sem.run prog (callFunc 38 args) w = .ok (.enter 38 args) w:=call_x 38 args w func38
@[simp] theorem call39 (args w):Sem.run prog (callFunc 39 args) w = .ok (.enter 39 args) w:=call_x 39 args w func39
@[simp] theorem call40 (args w):Sem.run prog (callFunc 40 args) w = .ok (.enter 40 args) w:=call_x 40 args w func40
@[simp] theorem call41 (args w):Sem.run prog (callFunc 41 args) w = .ok (.enter 41 args) w:=call_x 41 args w func41
@[simp] theorem call42 (args w):Sem.run prog (callFunc 42 args) w = .ok (.enter 42 args) w:=call_x 42 args w func42
@[simp] theorem call43 (args w):Sem.run prog (callFunc 43 args) w = .ok (.enter 43 args) w:=call_x 43 args w func43
@[simp] theorem call44 (args w):Sem.run prog (callFunc 44 args) w = .ok (.enter 44 args) w:=call_x 44 args w func44
@[simp] theorem call45 (args w):Sem.run prog (callFunc 45 args) w = .ok (.enter 45 args) w:=call_x 45 args w func45
@[simp] theorem call46 (args w):Sem.run prog (callFunc 46 args) w = .ok (.enter 46 args) w:=call_x 46 args w func46
@[simp] theorem call52 (args w):Sem.run prog (callFunc 52 args) w = .ok (.enter 52 args) w:=call_x 52 args w func52
@[simp] theorem call53 (args w):Sem.run prog (callFunc 53 args) w = .ok (.enter 53 args) w:=call_x 53 args w func53
@[simp] theorem call58 (args w):Sem.run prog (callFunc 58 args) w = .ok (.enter 58 args) w:=call_x 58 args w func58
@[simp] theorem call59 (args w):Sem.run prog (callFunc 59 args) w = .ok (.enter 59 args) w:=call_x 59 args w func59
@[simp] theorem call60 (args w):Sem.run prog (callFunc 60 args) w = .ok (.enter 60 args) w:=call_x 60 args w func60
@[simp] theorem call61 (args w):Sem.run prog (callFunc 61 args) w = .ok (.enter 61 args) w:=call_x 61 args w func61
@[simp] theorem call62 (args w):Sem.run prog (callFunc 62 args) w = .ok (.enter 62 args) w:=call_x 62 args w func62
@[simp] theorem call63 (args w):Sem.run prog (callFunc 63 args) w = .ok (.enter 63 args) w:=call_x 63 args w func63
@[simp] theorem call64 (args w):Sem.run prog (callFunc 64 args) w = .ok (.enter 64 args) w:=call_x 64 args w func64
@[simp] theorem call65 (args w):Sem.run prog (callFunc 65 args) w = .ok (.enter 65 args) w:=call_x 65 args w func65
@[simp] theorem call66 (args w):Sem.run prog (callFunc 66 args) w = .ok (.enter 66 args) w:=call_x 66 args w func66
@[simp] theorem call67 (args w):Sem.run prog (callFunc 67 args) w = .ok (.enter 67 args) w:=call_x 67 args w func67
@[simp] theorem call68 (args w):Sem.run prog (callFunc 68 args) w = .ok (.enter 68 args) w:=call_x 68 args w func68
@[simp] theorem call69 (args w):Sem.run prog (callFunc 69 args) w = .ok (.enter 69 args) w:=call_x 69 args w func69
@[simp] theorem call70 (args w):Sem.run prog (callFunc 70 args) w = .ok (.enter 70 args) w:=call_x 70 args w func70
@[simp] theorem call71 (args w):Sem.run prog (callFunc 71 args) w = .ok (.enter 71 args) w:=call_x 71 args w func71
@[simp] theorem call72 (args w):Sem.run prog (callFunc 72 args) w = .ok (.enter 72 args) w:=call_x 72 args w func72
@[simp] theorem call73 (args w):Sem.run prog (callFunc 73 args) w = .ok (.enter 73 args) w:=call_x 73 args w func73
@[simp] theorem call74 (args w):Sem.run prog (callFunc 74 args) w = .ok (.enter 74 args) w:=call_x 74 args w func74
@[simp] theorem call79 (args w):Sem.run prog (callFunc 79 args) w = .ok (.enter 79 args) w:=call_x 79 args w func79
@[simp] theorem call84 (args w):Sem.run prog (callFunc 84 args) w = .ok (.enter 84 args) w:=call_x 84 args w func84
@[simp] theorem call85 (args w):Sem.run prog (callFunc 85 args) w = .ok (.enter 85 args) w:=call_x 85 args w func85
@[simp] theorem call86 (args w):Sem.run prog (callFunc 86 args) w = .ok (.enter 86 args) w:=call_x 86 args w func86
@[simp] theorem call87 (args w):Sem.run prog (callFunc 87 args) w = .ok (.enter 87 args) w:=call_x 87 args w func87
@[simp] theorem call88 (args w):Sem.run prog (callFunc 88 args) w = .ok (.enter 88 args) w:=call_x 88 args w func88
@[simp] theorem call89 (args w):Sem.run prog (callFunc 89 args) w = .ok (.enter 89 args) w:=call_x 89 args w func89
@[simp] theorem call90 (args w):Sem.run prog (callFunc 90 args) w = .ok (.enter 90 args) w:=call_x 90 args w func90
@[simp] theorem call91 (args w):Sem.run prog (callFunc 91 args) w = .ok (.enter 91 args) w:=call_x 91 args w func91
@[simp] theorem call92 (args w):Sem.run prog (callFunc 92 args) w = .ok (.enter 92 args) w:=call_x 92 args w func92
@[simp] theorem call93 (args w):Sem.run prog (callFunc 93 args) w = .ok (.enter 93 args) w:=call_x 93 args w func93
@[simp] theorem call94 (args w):Sem.run prog (callFunc 94 args) w = .ok (.enter 94 args) w:=call_x 94 args w func94
@[simp] theorem call95 (args w):Sem.run prog (callFunc 95 args) w = .ok (.enter 95 args) w:=call_x 95 args w func95
@[simp] theorem call96 (args w):Sem.run prog (callFunc 96 args) w = .ok (.enter 96 args) w:=call_x 96 args w func96
@[simp] theorem call97 (args w):Sem.run prog (callFunc 97 args) w = .ok (.enter 97 args) w:=call_x 97 args w func97
@[simp] theorem call98 (args w):Sem.run prog (callFunc 98 args) w = .ok (.enter 98 args) w:=call_x 98 args w func98
@[simp] theorem call99 (args w):Sem.run prog (callFunc 99 args) w = .ok (.enter 99 args) w:=call_x 99 args w func99
@[simp] theorem call100 (args w):Sem.run prog (callFunc 100 args) w = .ok (.enter 100 args) w:=call_x 100 args w func100
@[simp] theorem call104 (args w):Sem.run prog (callFunc 104 args) w = .ok (.enter 104 args) w:=call_x 104 args w func104
@[simp] theorem call111 (args w):Sem.run prog (callFunc 111 args) w = .ok (.enter 111 args) w:=call_x 111 args w func111
@[simp] theorem call112 (args w):Sem.run prog (callFunc 112 args) w = .ok (.enter 112 args) w:=call_x 112 args w func112
@[simp] theorem call113 (args w):Sem.run prog (callFunc 113 args) w = .ok (.enter 113 args) w:=call_x 113 args w func113
@[simp] theorem call114 (args w):Sem.run prog (callFunc 114 args) w = .ok (.enter 114 args) w:=call_x 114 args w func114
@[simp] theorem call115 (args w):Sem.run prog (callFunc 115 args) w = .ok (.enter 115 args) w:=call_x 115 args w func115
@[simp] theorem call116 (args w):Sem.run prog (callFunc 116 args) w = .ok (.enter 116 args) w:=call_x 116 args w func116
@[simp] theorem call117 (args w):Sem.run prog (callFunc 117 args) w = .ok (.enter 117 args) w:=call_x 117 args w func117
@[simp] theorem call118 (args w):Sem.run prog (callFunc 118 args) w = .ok (.enter 118 args) w:=call_x 118 args w func118
@[simp] theorem call119 (args w):Sem.run prog (callFunc 119 args) w = .ok (.enter 119 args) w:=call_x 119 args w func119
@[simp] theorem call120 (args w):Sem.run prog (callFunc 120 args) w = .ok (.enter 120 args) w:=call_x 120 args w func120
@[simp] theorem call121 (args w):Sem.run prog (callFunc 121 args) w = .ok (.enter 121 args) w:=call_x 121 args w func121
@[simp] theorem call123 (args w):Sem.run prog (callFunc 123 args) w = .ok (.enter 123 args) w:=call_x 123 args w func123
@[simp] theorem call124 (args w):Sem.run prog (callFunc 124 args) w = .ok (.enter 124 args) w:=call_x 124 args w func124
@[simp] theorem call146 (args w):Sem.run prog (callFunc 146 args) w = .ok (.enter 146 args) w:=call_x 146 args w func146
@[simp] theorem call147 (args w):Sem.run prog (callFunc 147 args) w = .ok (.enter 147 args) w:=call_x 147 args w func147
@[simp] theorem call148 (args w):Sem.run prog (callFunc 148 args) w = .ok (.enter 148 args) w:=call_x 148 args w func148
@[simp] theorem call149 (args w):Sem.run prog (callFunc 149 args) w = .ok (.enter 149 args) w:=call_x 149 args w func149
@[simp] theorem call150 (args w):Sem.run prog (callFunc 150 args) w = .ok (.enter 150 args) w:=call_x 150 args w func150
@[simp] theorem call151 (args w):Sem.run prog (callFunc 151 args) w = .ok (.enter 151 args) w:=call_x 151 args w func151
@[simp] theorem call152 (args w):Sem.run prog (callFunc 152 args) w = .ok (.enter 152 args) w:=call_x 152 args w func152
@[simp] theorem call153 (args w):Sem.run prog (callFunc 153 args) w = .ok (.enter 153 args) w:=call_x 153 args w func153
@[simp] theorem call154 (args w):Sem.run prog (callFunc 154 args) w = .ok (.enter 154 args) w:=call_x 154 args w func154
@[simp] theorem call155 (args w):Sem.run prog (callFunc 155 args) w = .ok (.enter 155 args) w:=call_x 155 args w func155
@[simp] theorem call156 (args w):Sem.run prog (callFunc 156 args) w = .ok (.enter 156 args) w:=call_x 156 args w func156
@[simp] theorem call167 (args w):Sem.run prog (callFunc 167 args) w = .ok (.enter 167 args) w:=call_x 167 args w func167
@[simp] theorem call168 (args w):Sem.run prog (callFunc 168 args) w = .ok (.enter 168 args) w:=call_x 168 args w func168
@[simp] theorem call169 (args w):Sem.run prog (callFunc 169 args) w = .ok (.enter 169 args) w:=call_x 169 args w func169
@[simp] theorem call170 (args w):Sem.run prog (callFunc 170 args) w = .ok (.enter 170 args) w:=call_x 170 args w func170
@[simp] theorem call172 (args w):Sem.run prog (callFunc 172 args) w = .ok (.enter 172 args) w:=call_x 172 args w func172
end Go.Proofs.Tryzx
end
section
namespace Go.Proofs.Tryzx
def lawL:List Nat := [4,10,12,13,14,15,16,17,18,19,20,21,35,36,37,38,39,40,41,42,43,44,45,46,52,53,58,59,60,61,62,63,64,65,66,67,68,69,70,71,72,73,74,79,84,85,86,88,89,90,91,92,93,94,95,96,97,98,99,100,104,111,112,113,114,115,116,117,118,119,120,121,124,146,147,148,149,150,151,152,153,154,155,156,167,168,169,170,172]
end Go.Proofs.Tryzx
end
namespace Go.Proofs.YtjcgklifabcfkaaGreat
namespace Rn
open Go.Conc
def lawF:Nat→Bool:=fun k=>Tryzx.lawL.contains k
def lawD:Nat→Bool:=fun i=>i != specAt 87 && i != chanAt
theorem law_all : Tryzx.lawL.all (fun f => (f != 87) && match Tryz.prog.funcs[f]? with | some fn => (fn.name != "runtime.NumGoroutine") && (match fn.body with | some c => okC Tryz.prog.toTables lawF lawD c | none => false) | none => false) = true := by decide +kernel
theorem law_one {f : Nat} (h : lawF f = true) : f ≠ 87 ∧ ∃ fn c, Tryz.prog.funcs[f]? = some fn ∧ (fn.name == "runtime.NumGoroutine") = false ∧ fn.body = some c ∧ okC Tryz.prog.toTables lawF lawD c = true := by
 have hm : f ∈ Tryzx.lawL := by simpa [lawF] using h
 have := List.all_eq_true.1 law_all f hm;rw [Bool.and_eq_true] at this;obtain ⟨hne, this⟩ := this;refine ⟨by simpa using hne, ?_⟩;cases hf : Tryz.prog.funcs[f]? with
 | none => rw [hf] at this; cases this
 | some fn =>
  rw [hf] at this;dsimp only at this;cases hb : fn.body with
  | none => rw [hb] at this; simp at this
  | some c =>
   rw [hb] at this;simp only [Bool.and_eq_true] at this;exact ⟨fn, c, rfl, by simpa using this.1, hb, this.2⟩
theorem xset:Tryzx.prog.funcs=Tryz.prog.funcs.setIfInBounds 87 Tryzx.f87:=by kernel_rfl
theorem xfuncs (f:Nat) (hf:f ≠ 87):Tryzx.prog.funcs[f]?=Tryz.prog.funcs[f]?:=by
 rw [xset,Array.getElem?_setIfInBounds_ne (Ne.symm hf)]
theorem lawD_spec {f:Nat} (h:lawD (specAt f)=false):f=87:=by
 simp only [lawD,specAt,chanAt,Bool.and_eq_false_iff,bne_eq_false_iff_eq] at h;omega
theorem small_res {fn:Func} (h:(fn.results.toList.all fun x=>match x with | .tmp t=>decide (t<1000000) | .cell a _=>decide (a<1000000))=true):resD fn lawD=true:=by
 unfold resD;rw [List.all_eq_true] at h ⊢;intro x hx;have:=h x hx;have key:∀ t,t<1000000→lawD t=true:=fun t ht=>by simp only [lawD,specAt,chanAt,Bool.and_eq_true,bne_iff_ne,ne_eq]; omega
 cases x with
 | tmp t=>exact key t (by simpa using this)
 | cell a _=>exact key a (by simpa using this)
theorem law_res:(Tryzx.prog.funcs.toList.all fun fn=>fn.results.toList.all fun x=>match x with | .tmp t=>decide (t<1000000) | .cell a _=>decide (a<1000000))=true:=by decide +kernel
theorem law_resD {f:Nat} {fn:Func} (h:Tryzx.prog.funcs[f]?=some fn):resD fn lawD=true:=by
 refine small_res (List.all_eq_true.1 law_res fn ?_);obtain ⟨hi,rfl⟩:=Array.getElem?_eq_some_iff.1 h;simp
structure Win where
 live:Bool
 blk:Nat
 off:Nat
 cells:Array Value
noncomputable def gctx (noT:TypeId) (ws:List Win):Ctx where
 tb:=Tryz.prog.toTables
 fx:=Tryzx.prog.funcs
 fs:=Tryz.prog.funcs
 F:=lawF
 RO:=fun a=>Tryz.prog.globals.size≤a∧a<Tryz.prog.globals.size+ws.length
 sh:=fun a=>if Tryz.prog.globals.size≤a∧a<Tryz.prog.globals.size+ws.length then ((ws[a - Tryz.prog.globals.size]?).map (·.off)).getD 0 else 0
 noT:=noT
 D:=fun _=>lawD
noncomputable def sctx (noT:TypeId) (ws:List Win):Ctx where
 tb:=Tryz.prog.toTables
 fx:=Tryzx.prog.funcs
 fs:=Tryzx.prog.funcs
 F:=lawF
 RO:=fun a=>Tryz.prog.globals.size≤a∧a<Tryz.prog.globals.size+ws.length
 sh:=fun _=>0
 noT:=noT
 D:=fun _=>lawD
section
variable {noT : TypeId} {ws : List Win}
theorem gok:CtxOk (gctx noT ws):=by
 refine ⟨fun f h => ?_,fun f h => ?_,fun f fn h=>law_resD h,fun k f h => ?_,fun k f h => ?_⟩
 ·obtain ⟨hne,fn,c,h1,h2,h3,_⟩:=law_one h
  exact ⟨fn,(xfuncs f hne).trans h1,h2,by rw [h3]; rfl⟩
 ·obtain ⟨hne,fn,c,h1,h2,h3,_⟩:=law_one h
  exact ⟨fn,h1,h2,by rw [h3]; rfl⟩
 ·obtain rfl:=lawD_spec h
  exact ⟨_,Tryzx.func87,by decide,rfl⟩
 ·obtain rfl:=lawD_spec h
  exact ⟨_,Tryz.func87,by decide +kernel,by rw [pbody_body]; rfl⟩
theorem gfine {f:Nat} (h:lawF f=true):Fine (gctx noT ws) f:=by
 obtain ⟨hne,fn,c,h1,h2,h3,h4⟩:=law_one h;exact ⟨(xfuncs f hne).symm,fn,c,(xfuncs f hne).trans h1,h3,h4⟩
theorem sok : CtxOk (sctx noT ws) := by
 have one : ∀ f, lawF f = true → ∃ fn, Tryzx.prog.funcs[f]? = some fn ∧ (fn.name == "runtime.NumGoroutine") = false ∧ fn.body.isNone = false := fun f h => by
  obtain ⟨hne, fn, c, h1, h2, h3, _⟩ := law_one h;exact ⟨fn, (xfuncs f hne).trans h1, h2, by rw [h3]; rfl⟩
 have two : ∀ k f, (sctx noT ws).D k (specAt f) = false → ∃ fn, Tryzx.prog.funcs[f]? = some fn ∧ (fn.name == "runtime.NumGoroutine") = false ∧ fn.body.isNone = false := fun k f h => by
  obtain rfl := lawD_spec h;exact ⟨_, Tryzx.func87, by decide, rfl⟩
 exact ⟨one, one, fun f fn h => law_resD h, two, two⟩
theorem bodyX_ok:okC Tryz.prog.toTables lawF lawD Tryzx.bodyX=true:=by decide +kernel
theorem sfine:∀ f n,Entered (sctx noT ws) f n→Fine (sctx noT ws) f:=by
 rintro f n (h | ⟨⟨k,h⟩,_⟩)
 ·obtain ⟨hne,fn,c,h1,h2,h3,h4⟩:=law_one h
  exact ⟨rfl,fn,c,(xfuncs f hne).trans h1,h3,h4⟩
 ·obtain rfl:=lawD_spec h
  exact ⟨rfl,_,_,Tryzx.func87,rfl,bodyX_ok⟩
theorem cfine:Fine (sctx noT ws) 87:=⟨rfl,_,_,Tryzx.func87,rfl,bodyX_ok⟩
def dg (r:Ren):Ren:=fun a a'=>a=a'∧∃ b,r a b
variable {r : Ren} {w v : World}
theorem ar_self {a b:Addr} (h:AR (gctx noT ws) r a b):AR (sctx noT ws) (dg r) a a:=⟨⟨rfl,_,h.1⟩,rfl,rfl⟩
theorem vr_self {x y:Value} (h:VR (gctx noT ws) r x y):VR (sctx noT ws) (dg r) x x:=by
 induction h with
 | bool b=>exact .bool b
 | int k n=>exact .int k n
 | ptr0=>exact .ptr0
 | ptr a=>exact .ptr (ar_self a)
 | sl0 n c=>exact .sl0 n c
 | slE a b=>exact .slE a a
 | sl n c a=>exact .sl n c (ar_self a)
 | ch0=>exact .ch0
 | ch a n=>exact .ch ⟨rfl,_,a⟩ n
 | map0=>exact .map0
 | map a=>exact .map ⟨rfl,_,a⟩
 | @func f xs ys xs' ys' hf e _ e' _ ih ih' =>
  refine .func hf rfl (fun i x y hx hy => ?_) rfl (fun i x y hx hy => ?_)
  ·rw [hx] at hy; cases hy
   have hi:=(Array.getElem?_eq_some_iff.1 hx).1;exact ih i x _ hx (Array.getElem?_eq_getElem (e ▸ hi))
  ·rw [hx] at hy; cases hy
   have hi:=(Array.getElem?_eq_some_iff.1 hx).1;exact ih' i x _ hx (Array.getElem?_eq_getElem (e' ▸ hi))
 | nilFunc=>exact .nilFunc
 | @agg xs ys e _ ih =>
  refine .agg rfl fun i x y hx hy => ?_
  rw [hx] at hy; cases hy;have hi:=(Array.getElem?_eq_some_iff.1 hx).1;exact ih i x _ hx (Array.getElem?_eq_getElem (e ▸ hi))
 | @tuple xs ys e _ ih =>
  refine .tuple rfl fun i x y hx hy => ?_
  rw [hx] at hy; cases hy;have hi:=(Array.getElem?_eq_some_iff.1 hx).1;exact ih i x _ hx (Array.getElem?_eq_getElem (e ▸ hi))
theorem vall_self {xs ys:Array Value} (h:VAll (gctx noT ws) r xs ys):VAll (sctx noT ws) (dg r) xs xs:=by
 refine ⟨rfl,fun i x y hx hy => ?_⟩;rw [hx] at hy; cases hy;obtain ⟨y,_,hy⟩:=h.get? hx;exact vr_self hy
theorem or_self {x y:Option Obj} (h:OR (gctx noT ws) r x y):OR (sctx noT ws) (dg r) x x:=by
 cases h with
 | cells va=>exact .cells (vall_self va)
 | @map es es' k m =>
  refine .map ⟨rfl,fun i e e' he he' => ?_⟩;rw [he] at he'; cases he';have hi:=(Array.getElem?_eq_some_iff.1 he).1;have:=m.get i e _ he (Array.getElem?_eq_getElem (m.size ▸ hi));exact ⟨vr_self this.key,vr_self this.val,rfl⟩
 | number l a=>exact .number l (ar_self a)
 | chan cap cl s q tm hc va=>exact .chan cap cl s q tm hc (vall_self va)
theorem wr_self (h:WR (gctx noT ws) r w v):WR (sctx noT ws) (dg r) w w where
 lt:=by rintro a _ ⟨rfl,b,hb⟩; exact ⟨(h.lt _ _ hb).1,(h.lt _ _ hb).1⟩
 fn:=by rintro a b b' ⟨rfl,_⟩ ⟨rfl,_⟩; rfl
 inj:=by rintro a a' b ⟨rfl,_⟩ ⟨rfl,_⟩; exact .inl rfl
 obj:=by rintro a _ ⟨rfl,b,hb⟩ hr; exact or_self (h.obj _ _ hb hr)
 win:=by
  rintro a _ ⟨rfl,b,hb⟩ hr;obtain ⟨c,hi,c',t',z',h1,h2,h3,h4⟩:=h.win _ _ hb hr;refine ⟨c,hi,c,_,_,h1,h2,h1,fun i u hu=>⟨u,by simpa [sctx] using hu,?_⟩⟩;obtain ⟨u',_,hv⟩:=h4 i u hu;exact vr_self hv
 winG:=by rintro a _ ⟨rfl,b,hb⟩ hr; exact h.winG _ _ hb hr
 glob:=by rintro a _ ⟨rfl,b,hb⟩ _ _; rfl
 big:=⟨h.big.1,h.big.1⟩
 shz:=fun a _=>rfl
 roLt:=h.roLt
 noInfo:=h.noInfo
end
end Rn
namespace X
open Go.RowKit
theorem l01In_any (x a b:Int) (w:World):Calls Tryzx.prog 52 #[.int .i64 x,.int .i64 a,.int .i64 b] w fun e w'=>e = .returned (.bool (inB x a b))∧w=w':=by
 by_cases c1:a≤x
 ·by_cases c2:x≤b
  ·have H:=Lib.hid (inB_t ⟨c1,c2⟩)
   go_enter Tryzx.func52,Tryz.ntmps52;go_wp2;go_ret;exact ⟨ret_bool H.out.symm,rfl⟩
  ·have H:=Lib.hid (inB_f (x:=x) (a:=a) (b:=b) (by omega))
   go_enter Tryzx.func52,Tryz.ntmps52;go_wp2;go_ret;exact ⟨ret_bool H.out.symm,rfl⟩
 ·have H:=Lib.hid (inB_f (x:=x) (a:=a) (b:=b) (by omega))
  go_enter Tryzx.func52,Tryz.ntmps52;go_wp2;go_ret;exact ⟨ret_bool H.out.symm,rfl⟩
theorem within_any (x a b:Int) (w:World):Calls Tryzx.prog 43 #[.int .i64 x,.int .i64 a,.int .i64 b] w fun e w'=>e = .returned (.bool (inB x a b))∧w=w':=by
 by_cases c1:a≤x
 ·by_cases c2:x≤b
  ·have H:=Lib.hid (inB_t ⟨c1,c2⟩)
   go_enter Tryzx.func43,Tryz.ntmps43;go_wp2;go_ret;exact ⟨ret_bool H.out.symm,rfl⟩
  ·have H:=Lib.hid (inB_f (x:=x) (a:=a) (b:=b) (by omega))
   go_enter Tryzx.func43,Tryz.ntmps43;go_wp2;go_ret;exact ⟨ret_bool H.out.symm,rfl⟩
 ·have H:=Lib.hid (inB_f (x:=x) (a:=a) (b:=b) (by omega))
  go_enter Tryzx.func43,Tryz.ntmps43;go_wp2;go_ret;exact ⟨ret_bool H.out.symm,rfl⟩
end X
namespace X
open Go.RowKit
theorem isPlace_any (x:Int) (w:World):Calls Tryzx.prog 73 #[.int .i64 x] w fun e w'=>e = .returned (.bool (inB x (-60) 60))∧w=w':=by
 go_enter Tryzx.func73,Tryz.ntmps73;go_wp2_with (go_at_call 43; refine (within_any _ _ _ _).mono ?_; rintro e w' ⟨rfl,rfl⟩);go_ret;exact ⟨rfl,rfl⟩
theorem ok_any (x y:Int) (w:World):Calls Tryzx.prog 155 #[.agg #[.int .i64 x,.int .i64 y]] w fun e w'=>e = .returned (.bool (ptB x y))∧Below w.heap.size w w':=by
 cases h1:inB x (-60) 60
 ·have HF:=Lib.hid (show ptB x y=false by simp [ptB,h1])
  go_enter Tryzx.func155,Tryz.ntmps155;go_wp2_with (go_at_call 73; refine (isPlace_any _ _).mono ?_; rintro e w' ⟨rfl,rfl⟩);go_ret;exact ⟨ret_bool HF.out.symm,(Below.refl _ _).alloc (Nat.le_refl _) _⟩
 ·have HF:=Lib.hid (show ptB x y=inB y (-60) 60 by simp [ptB,h1])
  go_enter Tryzx.func155,Tryz.ntmps155;go_wp2_with (go_at_call 73; refine (isPlace_any _ _).mono ?_; rintro e w' ⟨rfl,rfl⟩);go_ret;exact ⟨ret_bool HF.out.symm,(Below.refl _ _).alloc (Nat.le_refl _) _⟩
theorem pointOk_any (x y:Int) (w:World):Calls Tryzx.prog 149 #[.agg #[.int .i64 x,.int .i64 y]] w fun e w'=>e = .returned (.bool (ptB x y))∧Below w.heap.size w w':=by
 cases h1:inB x (-60) 60
 ·have HF:=Lib.hid (show ptB x y=false by simp [ptB,h1])
  go_enter Tryzx.func149,Tryz.ntmps149;go_wp2_with (go_at_call 52; refine (l01In_any _ _ _ _).mono ?_; rintro e w' ⟨rfl,rfl⟩);go_ret;exact ⟨ret_bool HF.out.symm,(Below.refl _ _).alloc (Nat.le_refl _) _⟩
 ·have HF:=Lib.hid (show ptB x y=inB y (-60) 60 by simp [ptB,h1])
  go_enter Tryzx.func149,Tryz.ntmps149;go_wp2_with (go_at_call 52; refine (l01In_any _ _ _ _).mono ?_; rintro e w' ⟨rfl,rfl⟩);go_ret;exact ⟨ret_bool HF.out.symm,(Below.refl _ _).alloc (Nat.le_refl _) _⟩
set_option maxHeartbeats 800000 in
theorem side_any (ax ay bx b_y cx cy:Int) (w:World) (ha:ptB ax ay=true) (hb:ptB bx b_y=true) (hc:ptB cx cy=true) :
  Calls Tryzx.prog 156 #[.agg #[.int .i64 cx,.int .i64 cy],.agg #[.int .i64 ax,.int .i64 ay],.agg #[.int .i64 bx,.int .i64 b_y]] w fun e w'=>e = .returned (.int .i64 (sideI ax ay bx b_y cx cy))∧Below w.heap.size w w':=by
 have hbd:=sideI_bd ha hb hc;have HS:Hid (sideI ax ay bx b_y cx cy=(bx - ax)*(cy - ay) - (b_y - ay)*(cx - ax)):=rfl;rw [HS.out] at hbd;rw [ptB_iff] at ha hb hc;have h1:=mul120 (a:=bx - ax) (b:=cy - ay) (by omega) (by omega);have h2:=mul120 (a:=b_y - ay) (b:=cx - ax) (by omega) (by omega);go_enter Tryzx.func156,Tryz.ntmps156;go_wp2;go_ret;exact ⟨rfl,(((Below.refl _ _).alloc (Nat.le_refl _) _).alloc (by simp) _).alloc (by simp; omega) _⟩
theorem l02Side_any (ax ay bx b_y cx cy:Int) (w:World) (ha:ptB ax ay=true) (hb:ptB bx b_y=true) (hc:ptB cx cy=true) :
  Calls Tryzx.prog 150 #[.agg #[.int .i64 ax,.int .i64 ay],.agg #[.int .i64 bx,.int .i64 b_y],.agg #[.int .i64 cx,.int .i64 cy]] w fun e w'=>e = .returned (.int .i64 (sideI ax ay bx b_y cx cy))∧Below w.heap.size w w':=by
 have hbd:=sideI_bd ha hb hc;have HS:Hid (sideI ax ay bx b_y cx cy=(bx - ax)*(cy - ay) - (b_y - ay)*(cx - ax)):=rfl;rw [HS.out] at hbd;rw [ptB_iff] at ha hb hc;have h1:=mul120 (a:=bx - ax) (b:=cy - ay) (by omega) (by omega);have h2:=mul120 (a:=b_y - ay) (b:=cx - ax) (by omega) (by omega);go_enter Tryzx.func150,Tryz.ntmps150;go_wp2;go_ret;exact ⟨rfl,(((Below.refl _ _).alloc (Nat.le_refl _) _).alloc (by simp) _).alloc (by simp; omega) _⟩
end X
end Go.Proofs.YtjcgklifabcfkaaGreat
