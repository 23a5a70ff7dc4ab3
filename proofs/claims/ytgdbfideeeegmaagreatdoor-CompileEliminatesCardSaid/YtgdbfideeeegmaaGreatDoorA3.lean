/- Contracts of functions of the program, and what they answer. Conditions: those each theorem names. -/
import Derived.Test.YtgdbfideeeegmaaGreatDoorA1
import Derived.Test.YtgdbfideeeegmaaGreatDoorRows
import Derived.Test.YtgdbfideeeegmaaGreatDoorA2
import Derived.Shelf.Strconv.Itoa3
import Derived.Test.YtgdbfideeeegmaaGreatDoorProg
set_option linter.unusedSectionVars false
set_option linter.unusedSimpArgs false
set_option linter.unusedVariables false
set_option linter.unnecessarySimpa false
set_option maxHeartbeats 8000000
set_option maxRecDepth 20000
namespace Go.Proofs.YtgdbfideeeegmaaGreatDoor
open Go.Lx Go.RowKit _root_.Go.Proofs.Tryz
theorem mixed:Tryz.prog.follows .mixedOrders=true:=by kernel_rfl
theorem aM:eS Tryz.prog 3 (.int .i64 0) 1 8:=by unfold eS;kernel_rfl
theorem dc:eS Tryz.prog 4 (.bool false) 1 1:=by unfold eS;kernel_rfl
theorem cP:eS Tryz.prog 5 (.int .u8 0) 1 1:=by unfold eS;kernel_rfl
theorem CG:eS Tryz.prog 9 (.string ByteArray.empty) 1 16:=by unfold eS;kernel_rfl
theorem cU:eS Tryz.prog 22 ((.slice none 0 0)) 1 24:=by unfold eS;kernel_rfl
theorem ce:eS Tryz.prog 23 ((.slice none 0 0)) 1 24:=by unfold eS;kernel_rfl
theorem aX:eS Tryz.prog 25 ((.agg #[(.int .i64 0),(.int .i64 0),(.slice none 0 0),(.slice none 0 0)])) 4 64:=by unfold eS;kernel_rfl
theorem iU:eS Tryz.prog 27 (.int .i64 0) 1 8:=by unfold eS;kernel_rfl
theorem eT:eS Tryz.prog 32 ((.slice none 0 0)) 1 24:=by unfold eS;kernel_rfl
theorem bP:eS Tryz.prog 56 ((.slice none 0 0)) 1 24:=by unfold eS;kernel_rfl
theorem cm:eS Tryz.prog 63 ((.agg #[(.bool false),(.bool false),(.bool false),(.slice none 0 0)])) 4 32:=by unfold eS;kernel_rfl
theorem mu:eS Tryz.prog 67 (.int .u8 0) 1 1:=by unfold eS;kernel_rfl
theorem cg:eS Tryz.prog 69 ((.agg #[(.int .u8 0),(.slice none 0 0)])) 2 32:=by unfold eS;kernel_rfl
theorem bQ:eS Tryz.prog 72 ((.agg #[(.int .u8 0),(.int .u8 0),(.int .u8 0),(.int .i64 0),(.int .i64 0)])) 5 24:=by unfold eS;kernel_rfl
theorem mZ:eS Tryz.prog 75 ((.slice none 0 0)) 1 24:=by unfold eS;kernel_rfl
theorem tM:eS Tryz.prog 79 (.pointer none) 1 8:=by unfold eS;kernel_rfl
theorem UC:eS Tryz.prog 81 ((.agg #[(.slice none 0 0),(.int .i64 0),(.int .i64 0)])) 3 40:=by unfold eS;kernel_rfl
theorem jS:eS Tryz.prog 96 ((.agg #[(.int .i64 0),(.string ByteArray.empty),(.string ByteArray.empty),(.string ByteArray.empty)])) 4 56:=by unfold eS;kernel_rfl
theorem gj:eS Tryz.prog 112 ((.slice none 0 0)) 1 24:=by unfold eS;kernel_rfl
theorem Qi:eS Tryz.prog 114 ((.agg #[(.pointer none),(.slice none 0 0),(.slice none 0 0)])) 3 56:=by unfold eS;kernel_rfl
theorem dZ:eS Tryz.prog 118 ((.agg #[(.int .u8 0),(.int .i64 0),(.int .i64 0),(.slice none 0 0),(.slice none 0 0),(.slice none 0 0),(.bool false)])) 7 104:=by unfold eS;kernel_rfl
theorem o8:eS Tryz.prog 120 ((.slice none 0 0)) 1 24:=by unfold eS;kernel_rfl
theorem fe:eS Tryz.prog 122 ((.agg #[(.slice none 0 0),(.slice none 0 0)])) 2 48:=by unfold eS;kernel_rfl
theorem eX:eS Tryz.prog 129 ((.agg #[(.int .u8 0),(.int .u8 0)])) 2 2:=by unfold eS;kernel_rfl
theorem IY:eS Tryz.prog 140 (.nilFunc) 1 8:=by unfold eS;kernel_rfl
theorem Qo:eS Tryz.prog 146 ((.agg #[(.int .i64 0),(.int .i64 0),(.slice none 0 0),(.slice none 0 0)])) 4 64:=by unfold eS;kernel_rfl
theorem OU:eS Tryz.prog 149 ((.agg #[(.string ByteArray.empty),(.int .i64 0),(.slice none 0 0),(.int .i64 0)])) 4 56:=by unfold eS;kernel_rfl
theorem sK:eS Tryz.prog 153 ((.agg #[(.int .i64 0),(.int .i64 0)])) 2 16:=by unfold eS;kernel_rfl
theorem zj:eS Tryz.prog 160 (.map none) 1 8:=by unfold eS;kernel_rfl
theorem vT:eS Tryz.prog 163 ((.agg #[])) 0 0:=by unfold eS;kernel_rfl
theorem y4:eS Tryz.prog 167 ((.slice none 0 0)) 1 24:=by unfold eS;kernel_rfl
theorem gV:eS Tryz.prog 169 ((.agg #[(.int .i64 0),(.int .i64 0),(.slice none 0 0)])) 3 40:=by unfold eS;kernel_rfl
theorem fG:eS Tryz.prog 173 ((.agg #[(.int .i64 0),(.int .i64 0)])) 2 16:=by unfold eS;kernel_rfl
theorem IZ:eS Tryz.prog 180 (.nilFunc) 1 8:=by unfold eS;kernel_rfl
theorem fE:eS Tryz.prog 208 ((.agg #[(.int .i64 0),(.slice none 0 0)])) 2 32:=by unfold eS;kernel_rfl
theorem Ib:eS Tryz.prog 209 (.nilFunc) 1 8:=by unfold eS;kernel_rfl
theorem Qp:eS Tryz.prog 260 ((.agg #[(.int .u8 0),(.int .u8 0),(.int .u8 0),(.int .u8 0),(.int .u8 0),(.int .u8 0),(.int .u8 0),(.int .u8 0),(.int .u8 0),(.int .u8 0),(.int .u8 0),(.int .u8 0),(.int .u8 0),(.int .u8 0),(.int .u8 0),(.int .u8 0),(.int .u8 0),(.int .u8 0),(.int .u8 0),(.int .u8 0),(.int .u8 0),(.int .u8 0),(.int .u8 0),(.int .u8 0)])) 24 24:=by unfold eS;kernel_rfl
theorem gK:pY Tryz.prog 25 [(0,1),(1,1),(2,1),(3,1)]:=⟨_,underlying25,fun w=>by simp[bp aM,bp cU,bp ce]⟩
theorem nJ:pY Tryz.prog 63 [(0,1),(1,1),(2,1),(3,1)]:=⟨_,underlying63,fun w=>by simp[bp dc,bp eT]⟩
theorem oL:pY Tryz.prog 69 [(0,1),(1,1)]:=⟨_,underlying69,fun w=>by simp[bp eT,bp mu]⟩
theorem iy:pY Tryz.prog 72 [(0,1),(1,1),(2,1),(3,1),(4,1)]:=⟨_,underlying72,fun w=>by simp[bp aM,bp cP]⟩
theorem Qq:pY Tryz.prog 81 [(0,1),(1,1),(2,1)]:=⟨_,underlying81,fun w=>by simp[bp aM,bp eT]⟩
theorem qT:pY Tryz.prog 96 [(0,1),(1,1),(2,1),(3,1)]:=⟨_,underlying96,fun w=>by simp[bp aM,bp CG]⟩
theorem LO:pY Tryz.prog 114 [(0,1),(1,1),(2,1)]:=⟨_,underlying114,fun w=>by simp[bp bP,bp tM,bp gj]⟩
theorem Es:pY Tryz.prog 118 [(0,1),(1,4),(5,1),(6,1)]:=⟨_,underlying118,fun w=>by simp[bp dc,bp cP,bp aX,bp bP]⟩
theorem Er:pY Tryz.prog 122 [(0,1),(1,1)]:=⟨_,underlying122,fun w=>by simp[bp bP,bp o8]⟩
theorem gT:pY Tryz.prog 129 [(0,1),(1,1)]:=⟨_,underlying129,fun w=>by simp[bp cP]⟩
theorem LV:pY Tryz.prog 146 [(0,4)]:=⟨_,underlying146,fun w=>by simp[bp aX]⟩
theorem KT:pY Tryz.prog 149 [(0,1),(1,1),(2,1),(3,1)]:=⟨_,underlying149,fun w=>by simp[bp aM,bp CG,bp iU,bp eT]⟩
theorem r5:pY Tryz.prog 163 []:=⟨_,underlying163,fun w=>by simp[]⟩
theorem y6:pY Tryz.prog 169 [(0,1),(1,1),(2,1)]:=⟨_,underlying169,fun w=>by simp[bp aM,bp y4]⟩
theorem Ei:pY Tryz.prog 208 [(0,1),(1,1)]:=⟨_,underlying208,fun w=>by simp[bp aM,bp bP]⟩
theorem Xq:Lx.Enters Tryz.prog 9 f9:=⟨func9,by kernel_rfl,F⟩
theorem Ew:Lx.Enters Tryz.prog 10 f10:=⟨func10,by kernel_rfl,F⟩
theorem I0:Lx.Enters Tryz.prog 11 f11:=⟨func11,by kernel_rfl,F⟩
theorem UD:Lx.Enters Tryz.prog 12 f12:=⟨func12,by kernel_rfl,F⟩
theorem UE:Lx.Enters Tryz.prog 13 f13:=⟨func13,by kernel_rfl,F⟩
theorem Nb:Lx.Enters Tryz.prog 14 f14:=⟨func14,by kernel_rfl,F⟩
theorem HM:Lx.Enters Tryz.prog 15 f15:=⟨func15,by kernel_rfl,F⟩
theorem Nc:Lx.Enters Tryz.prog 16 f16:=⟨func16,by kernel_rfl,F⟩
theorem UF:Lx.Enters Tryz.prog 17 f17:=⟨func17,by kernel_rfl,F⟩
theorem M_:Lx.Enters Tryz.prog 19 f19:=⟨func19,by kernel_rfl,F⟩
theorem SV:Lx.Enters Tryz.prog 22 f22:=⟨func22,by kernel_rfl,F⟩
theorem xO:Lx.Enters Tryz.prog 23 f23:=⟨func23,by kernel_rfl,F⟩
theorem UG:Lx.Enters Tryz.prog 28 f28:=⟨func28,by kernel_rfl,F⟩
theorem Na:Lx.Enters Tryz.prog 29 f29:=⟨func29,by kernel_rfl,F⟩
theorem Mv:Lx.Enters Tryz.prog 30 f30:=⟨func30,by kernel_rfl,F⟩
theorem GL:Lx.Enters Tryz.prog 31 f31:=⟨func31,by kernel_rfl,F⟩
theorem HL:Lx.Enters Tryz.prog 32 f32:=⟨func32,by kernel_rfl,F⟩
theorem UH:Lx.Enters Tryz.prog 33 f33:=⟨func33,by kernel_rfl,F⟩
theorem UI:Lx.Enters Tryz.prog 34 f34:=⟨func34,by kernel_rfl,F⟩
theorem Nh:Lx.Enters Tryz.prog 35 f35:=⟨func35,by kernel_rfl,F⟩
theorem D7:Lx.Enters Tryz.prog 36 f36:=⟨func36,by kernel_rfl,F⟩
theorem HW:Lx.Enters Tryz.prog 37 f37:=⟨func37,by kernel_rfl,F⟩
theorem AY:Lx.Enters Tryz.prog 38 f38:=⟨func38,by kernel_rfl,F⟩
theorem AD:Lx.Enters Tryz.prog 39 f39:=⟨func39,by kernel_rfl,F⟩
theorem Hp:Lx.Enters Tryz.prog 40 f40:=⟨func40,by kernel_rfl,F⟩
theorem MX:Lx.Enters Tryz.prog 41 f41:=⟨func41,by kernel_rfl,F⟩
theorem Sw:Lx.Enters Tryz.prog 42 f42:=⟨func42,by kernel_rfl,F⟩
theorem NH:Lx.Enters Tryz.prog 43 f43:=⟨func43,by kernel_rfl,F⟩
theorem NI:Lx.Enters Tryz.prog 44 f44:=⟨func44,by kernel_rfl,F⟩
theorem I1:Lx.Enters Tryz.prog 45 f45:=⟨func45,by kernel_rfl,F⟩
theorem UJ:Lx.Enters Tryz.prog 46 f46:=⟨func46,by kernel_rfl,F⟩
theorem SP:Lx.Enters Tryz.prog 47 f47:=⟨func47,by kernel_rfl,F⟩
theorem vH:Lx.Enters Tryz.prog 48 f48:=⟨func48,by kernel_rfl,F⟩
theorem DX:Lx.Enters Tryz.prog 49 f49:=⟨func49,by kernel_rfl,F⟩
theorem NJ:Lx.Enters Tryz.prog 50 f50:=⟨func50,by kernel_rfl,F⟩
theorem NK:Lx.Enters Tryz.prog 51 f51:=⟨func51,by kernel_rfl,F⟩
theorem UL:Lx.Enters Tryz.prog 52 f52:=⟨func52,by kernel_rfl,F⟩
theorem UA:Lx.Enters Tryz.prog 54 f54:=⟨func54,by kernel_rfl,F⟩
theorem Ev:Lx.Enters Tryz.prog 56 f56:=⟨func56,by kernel_rfl,F⟩
theorem UM:Lx.Enters Tryz.prog 58 f58:=⟨func58,by kernel_rfl,F⟩
theorem SW:Lx.Enters Tryz.prog 59 f59:=⟨func59,by kernel_rfl,F⟩
theorem UN:Lx.Enters Tryz.prog 60 f60:=⟨func60,by kernel_rfl,F⟩
theorem NL:Lx.Enters Tryz.prog 61 f61:=⟨func61,by kernel_rfl,F⟩
theorem UO:Lx.Enters Tryz.prog 62 f62:=⟨func62,by kernel_rfl,F⟩
theorem AW:Lx.Enters Tryz.prog 63 f63:=⟨func63,by kernel_rfl,F⟩
theorem Nf:Lx.Enters Tryz.prog 64 f64:=⟨func64,by kernel_rfl,F⟩
theorem Tg:Lx.Enters Tryz.prog 65 f65:=⟨func65,by kernel_rfl,F⟩
theorem HT:Lx.Enters Tryz.prog 66 f66:=⟨func66,by kernel_rfl,F⟩
theorem Si:Lx.Enters Tryz.prog 67 f67:=⟨func67,by kernel_rfl,F⟩
theorem Hj:Lx.Enters Tryz.prog 68 f68:=⟨func68,by kernel_rfl,F⟩
theorem UP:Lx.Enters Tryz.prog 69 f69:=⟨func69,by kernel_rfl,F⟩
theorem NG:Lx.Enters Tryz.prog 70 f70:=⟨func70,by kernel_rfl,F⟩
theorem NF:Lx.Enters Tryz.prog 71 f71:=⟨func71,by kernel_rfl,F⟩
theorem xZ:Lx.Enters Tryz.prog 72 f72:=⟨func72,by kernel_rfl,F⟩
theorem IN:Lx.Enters Tryz.prog 73 f73:=⟨func73,by kernel_rfl,F⟩
theorem Uu:Lx.Enters Tryz.prog 74 f74:=⟨func74,by kernel_rfl,F⟩
theorem Us:Lx.Enters Tryz.prog 75 f75:=⟨func75,by kernel_rfl,F⟩
theorem Ui:Lx.Enters Tryz.prog 76 f76:=⟨func76,by kernel_rfl,F⟩
theorem Um:Lx.Enters Tryz.prog 77 f77:=⟨func77,by kernel_rfl,F⟩
theorem Uk:Lx.Enters Tryz.prog 78 f78:=⟨func78,by kernel_rfl,F⟩
theorem SI:Lx.Enters Tryz.prog 79 f79:=⟨func79,by kernel_rfl,F⟩
theorem SK:Lx.Enters Tryz.prog 80 f80:=⟨func80,by kernel_rfl,F⟩
theorem NM:Lx.Enters Tryz.prog 81 f81:=⟨func81,by kernel_rfl,F⟩
theorem NN:Lx.Enters Tryz.prog 82 f82:=⟨func82,by kernel_rfl,F⟩
theorem Ex:Lx.Enters Tryz.prog 83 f83:=⟨func83,by kernel_rfl,F⟩
theorem UQ:Lx.Enters Tryz.prog 84 f84:=⟨func84,by kernel_rfl,F⟩
theorem I2:Lx.Enters Tryz.prog 85 f85:=⟨func85,by kernel_rfl,F⟩
theorem UR:Lx.Enters Tryz.prog 86 f86:=⟨func86,by kernel_rfl,F⟩
theorem Uy:Lx.Enters Tryz.prog 89 f89:=⟨func89,by kernel_rfl,F⟩
theorem IX:Lx.Enters Tryz.prog 90 f90:=⟨func90,by kernel_rfl,F⟩
theorem NO:Lx.Enters Tryz.prog 91 f91:=⟨func91,by kernel_rfl,F⟩
theorem NP:Lx.Enters Tryz.prog 94 f94:=⟨func94,by kernel_rfl,F⟩
theorem US:Lx.Enters Tryz.prog 95 f95:=⟨func95,by kernel_rfl,F⟩
theorem AM:Lx.Enters Tryz.prog 96 f96:=⟨func96,by kernel_rfl,F⟩
theorem NQ:Lx.Enters Tryz.prog 97 f97:=⟨func97,by kernel_rfl,F⟩
theorem UT:Lx.Enters Tryz.prog 98 f98:=⟨func98,by kernel_rfl,F⟩
theorem UU:Lx.Enters Tryz.prog 99 f99:=⟨func99,by kernel_rfl,F⟩
theorem PL:Lx.Enters Tryz.prog 100 f100:=⟨func100,by kernel_rfl,F⟩
theorem yS:Lx.Enters Tryz.prog 101 f101:=⟨func101,by kernel_rfl,F⟩
theorem Qc:Lx.Enters Tryz.prog 103 f103:=⟨func103,by kernel_rfl,F⟩
theorem Iq:Lx.Enters Tryz.prog 104 f104:=⟨func104,by kernel_rfl,F⟩
theorem PI:Lx.Enters Tryz.prog 105 f105:=⟨func105,by kernel_rfl,F⟩
theorem It:Lx.Enters Tryz.prog 108 f108:=⟨func108,by kernel_rfl,F⟩
theorem ID:Lx.Enters Tryz.prog 109 f109:=⟨func109,by kernel_rfl,F⟩
theorem C5:Lx.Enters Tryz.prog 110 f110:=⟨func110,by kernel_rfl,F⟩
theorem Qb:Lx.Enters Tryz.prog 111 f111:=⟨func111,by kernel_rfl,F⟩
theorem sS:Lx.Enters Tryz.prog 112 f112:=⟨func112,by kernel_rfl,F⟩
theorem IF:Lx.Enters Tryz.prog 113 f113:=⟨func113,by kernel_rfl,F⟩
theorem C8:Lx.Enters Tryz.prog 114 f114:=⟨func114,by kernel_rfl,F⟩
theorem y7:Lx.Enters Tryz.prog 115 f115:=⟨func115,by kernel_rfl,F⟩
theorem Ix:Lx.Enters Tryz.prog 116 f116:=⟨func116,by kernel_rfl,F⟩
theorem Qa:Lx.Enters Tryz.prog 117 f117:=⟨func117,by kernel_rfl,F⟩
theorem Qr:Lx.Enters Tryz.prog 118 f118:=⟨func118,by kernel_rfl,F⟩
theorem Qs:Lx.Enters Tryz.prog 119 f119:=⟨func119,by kernel_rfl,F⟩
theorem I3:Lx.Enters Tryz.prog 120 f120:=⟨func120,by kernel_rfl,F⟩
theorem N2:Lx.Enters Tryz.prog 121 f121:=⟨func121,by kernel_rfl,F⟩
theorem N3:Lx.Enters Tryz.prog 122 f122:=⟨func122,by kernel_rfl,F⟩
theorem Qt:Lx.Enters Tryz.prog 124 f124:=⟨func124,by kernel_rfl,F⟩
theorem Qk:Lx.Enters Tryz.prog 127 f127:=⟨func127,by kernel_rfl,F⟩
theorem Qu:Lx.Enters Tryz.prog 128 f128:=⟨func128,by kernel_rfl,F⟩
theorem jF:Lx.Enters Tryz.prog 132 f132:=⟨func132,by kernel_rfl,F⟩
theorem yJ:Lx.Enters Tryz.prog 133 f133:=⟨func133,by kernel_rfl,F⟩
theorem OJ:Lx.Enters Tryz.prog 134 f134:=⟨func134,by kernel_rfl,F⟩
theorem OK:Lx.Enters Tryz.prog 135 f135:=⟨func135,by kernel_rfl,F⟩
theorem Qv:Lx.Enters Tryz.prog 136 f136:=⟨func136,by kernel_rfl,F⟩
theorem I4:Lx.Enters Tryz.prog 137 f137:=⟨func137,by kernel_rfl,F⟩
theorem PF:Lx.Enters Tryz.prog 140 f140:=⟨func140,by kernel_rfl,F⟩
theorem PD:Lx.Enters Tryz.prog 141 f141:=⟨func141,by kernel_rfl,F⟩
theorem Py:Lx.Enters Tryz.prog 142 f142:=⟨func142,by kernel_rfl,F⟩
theorem PA:Lx.Enters Tryz.prog 143 f143:=⟨func143,by kernel_rfl,F⟩
theorem H9:Lx.Enters Tryz.prog 144 f144:=⟨func144,by kernel_rfl,F⟩
theorem Pw:Lx.Enters Tryz.prog 145 f145:=⟨func145,by kernel_rfl,F⟩
theorem H3:Lx.Enters Tryz.prog 146 f146:=⟨func146,by kernel_rfl,F⟩
theorem CW:Lx.Enters Tryz.prog 147 f147:=⟨func147,by kernel_rfl,F⟩
theorem yV:Lx.Enters Tryz.prog 148 f148:=⟨func148,by kernel_rfl,F⟩
theorem H7:Lx.Enters Tryz.prog 149 f149:=⟨func149,by kernel_rfl,F⟩
theorem PC:Lx.Enters Tryz.prog 150 f150:=⟨func150,by kernel_rfl,F⟩
theorem H_:Lx.Enters Tryz.prog 153 f153:=⟨func153,by kernel_rfl,F⟩
theorem Pt:Lx.Enters Tryz.prog 154 f154:=⟨func154,by kernel_rfl,F⟩
theorem Po:Lx.Enters Tryz.prog 155 f155:=⟨func155,by kernel_rfl,F⟩
theorem Pp:Lx.Enters Tryz.prog 156 f156:=⟨func156,by kernel_rfl,F⟩
theorem Pr:Lx.Enters Tryz.prog 157 f157:=⟨func157,by kernel_rfl,F⟩
theorem PW:Lx.Enters Tryz.prog 159 f159:=⟨func159,by kernel_rfl,F⟩
theorem yL:Lx.Enters Tryz.prog 160 f160:=⟨func160,by kernel_rfl,F⟩
theorem P1:Lx.Enters Tryz.prog 161 f161:=⟨func161,by kernel_rfl,F⟩
theorem IB:Lx.Enters Tryz.prog 162 f162:=⟨func162,by kernel_rfl,F⟩
theorem P2:Lx.Enters Tryz.prog 163 f163:=⟨func163,by kernel_rfl,F⟩
theorem PT:Lx.Enters Tryz.prog 164 f164:=⟨func164,by kernel_rfl,F⟩
theorem PS:Lx.Enters Tryz.prog 165 f165:=⟨func165,by kernel_rfl,F⟩
theorem PM:Lx.Enters Tryz.prog 166 f166:=⟨func166,by kernel_rfl,F⟩
theorem PK:Lx.Enters Tryz.prog 167 f167:=⟨func167,by kernel_rfl,F⟩
theorem Qw:Lx.Enters Tryz.prog 168 f168:=⟨func168,by kernel_rfl,F⟩
theorem lV:Lx.Enters Tryz.prog 171 f171:=⟨func171,by kernel_rfl,F⟩
theorem yI:Lx.Enters Tryz.prog 189 f189:=⟨func189,by kernel_rfl,F⟩
theorem Pf:Lx.Enters Tryz.prog 192 f192:=⟨func192,by kernel_rfl,F⟩
theorem Pg:Lx.Enters Tryz.prog 193 f193:=⟨func193,by kernel_rfl,F⟩
theorem CS:Lx.Enters Tryz.prog 194 f194:=⟨func194,by kernel_rfl,F⟩
theorem Pe:Lx.Enters Tryz.prog 195 f195:=⟨func195,by kernel_rfl,F⟩
theorem Pd:Lx.Enters Tryz.prog 196 f196:=⟨func196,by kernel_rfl,F⟩
theorem Ph:Lx.Enters Tryz.prog 197 f197:=⟨func197,by kernel_rfl,F⟩
theorem Pj:Lx.Enters Tryz.prog 198 f198:=⟨func198,by kernel_rfl,F⟩
theorem HZ:Lx.Enters Tryz.prog 210 f210:=⟨func210,by kernel_rfl,F⟩
theorem P0:Lx.Enters Tryz.prog 211 f211:=⟨func211,by kernel_rfl,F⟩
theorem PY:Lx.Enters Tryz.prog 212 f212:=⟨func212,by kernel_rfl,F⟩
theorem PO:Lx.Enters Tryz.prog 213 f213:=⟨func213,by kernel_rfl,F⟩
theorem Qy:Lx.Enters Tryz.prog 214 f214:=⟨func214,by kernel_rfl,F⟩
theorem Qz:Lx.Enters Tryz.prog 215 f215:=⟨func215,by kernel_rfl,F⟩
theorem QA:Lx.Enters Tryz.prog 216 f216:=⟨func216,by kernel_rfl,F⟩
theorem HY:Lx.Enters Tryz.prog 231 f231:=⟨func231,by kernel_rfl,F⟩
theorem PU:Lx.Enters Tryz.prog 232 f232:=⟨func232,by kernel_rfl,F⟩
theorem Iy:Lx.Enters Tryz.prog 240 f240:=⟨func240,by kernel_rfl,F⟩
end Go.Proofs.YtgdbfideeeegmaaGreatDoor

namespace Go.Proofs.YtgdbfideeeegmaaGreatDoor
open Go.Lx Go.RowKit _root_.Go.Proofs.Tryz
theorem FZ (w:World) (b1 b2:Option Addr) (c1 c2:Nat) (xs ys:List Int) (h1:Sl w b1 (ints xs)) (h2:Sl w b2 (ints ys)) (hb:xs.length<9223372036854775807):
  bs Tryz.prog 69 [(.slice b1 xs.length c1),(.slice b2 ys.length c2)] w fun v N=>v=.bool (decide (xs=ys))∧N=[]:=by
 refine av func69 F ntmps69 F ?_
 refine ai (TO.qa F (ae (ax (ai (ah F (ad (bL underlying56 F) (ah F (ad (bL underlying56 F) (ad (cS F F) (ae (aw F (fun hc=>?_) (fun hc=>?_))))))))))))
 ·have jQ:xs.length≠ys.length:=by omega
  have ie:xs.length≠ys.length:=by omega
  refine ai (TO.qa F (ae (az ?_)))
  refine aG (.bool false) Tryz.results69 F ?_
  exact⟨congrArg Value.bool (decide_eq_false (fun e=>ie (by rw[e]))).symm,F⟩
 have tx: ¬xs.length≠ys.length:=by omega
 have ie:xs.length=ys.length:=by omega
 refine aq (ax (ai (TO.qa F (ae (aC ?_)))))
 refine ck (fun(k:Nat) ρ O=>O=[]∧k≤xs.length∧xs.take k=ys.take k∧bZ [(0,(.slice b1 xs.length c1)),(1,(.slice b2 ys.length c2)),(5,vI (k:Int))] ρ) (fun k=>xs.length-k) 0 ?_ ?_
 ·exact⟨F,Nat.zero_le _,F,⟨F,F,F,trivial⟩⟩
 rintro k ρ O ⟨rfl,hk,he,hH⟩
 obtain⟨eP,rfl⟩:=hH.elim
 clear hH
 refine ax (ai (ah F (ah F (ad (bL underlying56 F) (ad (bI F F) (ae (aw F (fun hc=>?_) (fun hc=>?_))))))))
 ·have me:k<xs.length:=by omega
  have eU:k<xs.length:=by omega
  have j3:k<ys.length:=by omega
  obtain⟨Xt,Xu,rfl⟩:=h1.addr (i:=k) (by simpa using eU)
  obtain⟨Y0,Y1,rfl⟩:=h2.addr (i:=k) (by simpa using j3)
  refine aq (ax (aC (ax ?_)))
  refine dO [(0,0),(1,0),(2,0),(3,0),(4,0),(5,0),(6,0),(7,0),(8,0)] ?_
  refine am F (aF F) (am F (aF F) (am F (u3 underlying56 aM F F eU) (am F (jU underlying3 F F h1 (d_ eU)) (am F (aF F) (am F (aF F) (am F (u3 underlying56 aM F F j3) (am F (jU underlying3 F F h2 (d_ j3)) (am F (cS F F) ?_))))))))
  refine bu ?_
  refine aw (p:= ¬xs[k]=ys[k]) F (fun hc=>?_) (fun hc=>?_)
  ·refine ax ?_
   refine aH (TO.qa F (ae (az ?_)))
   refine aG (.bool false) Tryz.results69 F ?_
   exact⟨congrArg Value.bool (decide_eq_false (fun e=>hc (by subst e;rfl))).symm,F⟩
  refine aq (aH (ah F (ad (ey F F (by omega)) (TO.qa F (ae ?_)))))
  refine⟨k+1,by omega,F,by omega,?_,⟨F,F,F,trivial⟩⟩
  rw[List.take_succ_eq_append_getElem eU,List.take_succ_eq_append_getElem j3,he]
  exact congrArg _ (congrArg (fun z=>[z]) (Classical.not_not.1 hc))
 have mR: ¬k<xs.length:=by omega
 refine bn ?_
 refine ai (TO.qa F (ae (az ?_)))
 refine aG (.bool true) Tryz.results69 F ?_
 exact⟨congrArg Value.bool (decide_eq_true (show xs=ys by rw[List.take_of_length_le (by omega),List.take_of_length_le (by omega)]at he;exact he)).symm,F⟩
theorem ws (w:World) (b1 b2:Option Addr) (c1 c2:Nat) (xs ys:List Bool) (h1:Sl w b1 (aU xs)) (h2:Sl w b2 (aU ys)) (hb:xs.length<9223372036854775807):
  bs Tryz.prog 44 [(.slice b1 xs.length c1),(.slice b2 ys.length c2)] w fun v N=>v=.bool (decide (xs=ys))∧N=[]:=by
 refine av func44 F ntmps44 F ?_
 refine ai (TO.qa F (ae (ax (ai (ah F (ad (bL underlying23 F) (ah F (ad (bL underlying23 F) (ad (cS F F) (ae (aw F (fun hc=>?_) (fun hc=>?_))))))))))))
 ·have jQ:xs.length≠ys.length:=by omega
  have ie:xs.length≠ys.length:=by omega
  refine ai (TO.qa F (ae (az ?_)))
  refine aG (.bool false) Tryz.results44 F ?_
  exact⟨congrArg Value.bool (decide_eq_false (fun e=>ie (by rw[e]))).symm,F⟩
 have tx: ¬xs.length≠ys.length:=by omega
 have ie:xs.length=ys.length:=by omega
 refine aq (ax (ai (TO.qa F (ae (aC ?_)))))
 refine ck (fun(k:Nat) ρ O=>O=[]∧k≤xs.length∧xs.take k=ys.take k∧bZ [(0,(.slice b1 xs.length c1)),(1,(.slice b2 ys.length c2)),(5,vI (k:Int))] ρ) (fun k=>xs.length-k) 0 ?_ ?_
 ·exact⟨F,Nat.zero_le _,F,⟨F,F,F,trivial⟩⟩
 rintro k ρ O ⟨rfl,hk,he,hH⟩
 obtain⟨eP,rfl⟩:=hH.elim
 clear hH
 refine ax (ai (ah F (ah F (ad (bL underlying23 F) (ad (bI F F) (ae (aw F (fun hc=>?_) (fun hc=>?_))))))))
 ·have me:k<xs.length:=by omega
  have eU:k<xs.length:=by omega
  have j3:k<ys.length:=by omega
  obtain⟨Xt,Xu,rfl⟩:=h1.addr (i:=k) (by simpa using eU)
  obtain⟨Y0,Y1,rfl⟩:=h2.addr (i:=k) (by simpa using j3)
  refine aq (ax (aC (ax ?_)))
  refine dO [(0,0),(1,0),(2,0),(3,0),(4,0),(5,0),(6,0),(7,0),(8,0)] ?_
  refine am F (aF F) (am F (aF F) (am F (u3 underlying23 dc F F eU) (am F (jU underlying4 F F h1 (gu eU)) (am F (aF F) (am F (aF F) (am F (u3 underlying23 dc F F j3) (am F (jU underlying4 F F h2 (gu j3)) (am F (Ct underlying4 F F) ?_))))))))
  refine bu ?_
  refine aw (p:= ¬xs[k]=ys[k]) (congrArg Value.bool (by cases xs[k]<;>cases ys[k]<;>rfl)) (fun hc=>?_) (fun hc=>?_)
  ·refine ax ?_
   refine aH (TO.qa F (ae (az ?_)))
   refine aG (.bool false) Tryz.results44 F ?_
   exact⟨congrArg Value.bool (decide_eq_false (fun e=>hc (by subst e;rfl))).symm,F⟩
  refine aq (aH (ah F (ad (ey F F (by omega)) (TO.qa F (ae ?_)))))
  refine⟨k+1,by omega,F,by omega,?_,⟨F,F,F,trivial⟩⟩
  rw[List.take_succ_eq_append_getElem eU,List.take_succ_eq_append_getElem j3,he]
  exact congrArg _ (congrArg (fun z=>[z]) (Classical.not_not.1 hc))
 have mR: ¬k<xs.length:=by omega
 refine bn ?_
 refine ai (TO.qa F (ae (az ?_)))
 refine aG (.bool true) Tryz.results44 F ?_
 exact⟨congrArg Value.bool (decide_eq_true (show xs=ys by rw[List.take_of_length_le (by omega),List.take_of_length_le (by omega)]at he;exact he)).symm,F⟩
theorem Jb (w:World) (b1:Option Addr) (c1:Nat) (xs:List Int) (h1:Sl w b1 (ints xs)) (hb:xs.length*8≤70368744177664):
  bs Tryz.prog 60 [.slice b1 xs.length c1] w fun v N=> ∃b c,v=.slice b xs.length c∧N=[ak b c 3 1 (ints xs)]:=by
 refine av func60 F ntmps60 F ?_
 refine ai (TO.qa F (ae (ai (ah F (aj F (sI (l:=xs.length) underlying56 underlying56 aM F F F (by decide) (Src.sl h1 (by simp)) (G5 xs) (by omega) (by decide) (by decide) (fun b1 c2=>?_)))))))
 refine TO.qa F (ae (az ?_))
 refine aG (.slice b1 xs.length c2) Tryz.results60 F ?_
 exact⟨_,_,F,F⟩
theorem F0 (w:World) (b1:Option Addr) (c1:Nat) (xs:List Bool) (h1:Sl w b1 (aU xs)) (hb:xs.length*1≤70368744177664):
  bs Tryz.prog 34 [.slice b1 xs.length c1] w fun v N=> ∃b c,v=.slice b xs.length c∧N=[ak b c 4 1 (aU xs)]:=by
 refine av func34 F ntmps34 F ?_
 refine ai (TO.qa F (ae (ai (ah F (aj F (sI (l:=xs.length) underlying23 underlying23 dc F F F (by decide) (Src.sl h1 (by simp)) (Fs xs) (by omega) (by decide) (by decide) (fun b1 c2=>?_)))))))
 refine TO.qa F (ae (az ?_))
 refine aG (.slice b1 xs.length c2) Tryz.results34 F ?_
 exact⟨_,_,F,F⟩
theorem x_ (w:World) (b1 b2:Option Addr) (c1 c2:Nat) (vs us:List Value) (rs ss:List (List Int)) (h1:Sl w b1 vs) (Ra:mg w vs rs) (h2:Sl w b2 us) (MP:mg w us ss) (hb:rs.length<9223372036854775807) (jy: ∀r∈rs,r.length<9223372036854775807):
  bs Tryz.prog 43 [.slice b1 rs.length c1,.slice b2 ss.length c2] w fun v N=>v=.bool (decide (rs=ss))∧N=[]:=by
 refine av func43 F ntmps43 F ?_
 refine ai (TO.qa F (ae (ax (ai (ah F (ad (bL underlying22 F) (ah F (ad (bL underlying22 F) (ad (cS F F) (ae (aw F (fun hc=>?_) (fun hc=>?_))))))))))))
 ·have jQ:rs.length≠ss.length:=by omega
  have ie:rs.length≠ss.length:=by omega
  refine ai (TO.qa F (ae (az ?_)))
  refine aG (.bool false) Tryz.results43 F ?_
  exact⟨congrArg Value.bool (decide_eq_false (fun e=>ie (by rw[e]))).symm,F⟩
 have tx: ¬rs.length≠ss.length:=by omega
 have ie:rs.length=ss.length:=by omega
 refine aq (ax (ai (TO.qa F (ae (aC ?_)))))
 refine ck (fun(k:Nat) ρ O=>O=[]∧k≤rs.length∧rs.take k=ss.take k∧bZ [(0,(.slice b1 rs.length c1)),(1,(.slice b2 ss.length c2)),(5,vI (k:Int))] ρ) (fun k=>rs.length-k) 0 ?_ ?_
 ·exact⟨F,Nat.zero_le _,F,⟨F,F,F,trivial⟩⟩
 rintro k ρ O ⟨rfl,hk,he,hH⟩
 obtain⟨eP,rfl⟩:=hH.elim
 clear hH
 refine ax (ai (ah F (ah F (ad (bL underlying22 F) (ad (bI F F) (ae (aw F (fun hc=>?_) (fun hc=>?_))))))))
 ·have me:k<rs.length:=by omega
  have eU:k<rs.length:=by omega
  have j3:k<ss.length:=by omega
  obtain⟨Mw,Mx,g1,s1⟩:=Ra.get eU
  obtain⟨Yl,Ym,g2,s2⟩:=MP.get j3
  obtain⟨Xt,Xu,rfl⟩:=h1.addr (i:=k) (by rw[Ra.1];exact eU)
  obtain⟨Y0,Y1,rfl⟩:=h2.addr (i:=k) (by rw[MP.1];exact j3)
  refine aq (ax (aC (ax ?_)))
  refine dO [(0,0),(1,0),(2,0),(3,0),(4,0),(5,0),(6,0),(7,0),(8,2),(9,2)] ?_
  refine am F (aF F) (am F (aF F) (am F (u3 underlying22 bP F F eU) (am F (jU underlying56 F F h1 g1) (am F (aF F) (am F (aF F) (am F (u3 underlying22 bP F F j3) (am F (jU underlying56 F F h2 g2) ?_)))))))
  have ng:=fun(w1:World) (hI:Inv w [] w1)=>FZ w1 Mw Yl Mx Ym rs[k] ss[k] (hI.sl s1) (hI.sl s2) (jy _ (List.getElem_mem eU))
  refine bq F F (aI UP (aE ng) F ?_)
  clear ng
  rintro v O' ⟨N,rfl,rfl,rfl⟩
  refine bq F F (dG F F (f_ F) ?_)
  refine bu ?_
  refine aw (p:= ¬rs[k]=ss[k]) (congrArg Value.bool (by simp)) (fun hc=>?_) (fun hc=>?_)
  ·refine ax ?_
   refine aH (TO.qa F (ae (az ?_)))
   refine aG (.bool false) Tryz.results43 F ?_
   exact⟨congrArg Value.bool (decide_eq_false (fun e=>hc (by subst e;rfl))).symm,F⟩
  refine aq (aH (ah F (ad (ey F F (by omega)) (TO.qa F (ae ?_)))))
  refine⟨k+1,by omega,F,by omega,?_,⟨F,F,F,trivial⟩⟩
  rw[List.take_succ_eq_append_getElem eU,List.take_succ_eq_append_getElem j3,he]
  exact congrArg _ (congrArg (fun z=>[z]) (Classical.not_not.1 hc))
 have mR: ¬k<rs.length:=by omega
 refine bn ?_
 refine ai (TO.qa F (ae (az ?_)))
 refine aG (.bool true) Tryz.results43 F ?_
 exact⟨congrArg Value.bool (decide_eq_true (show rs=ss by rw[List.take_of_length_le (by omega),List.take_of_length_le (by omega)]at he;exact he)).symm,F⟩
theorem zL (w:World) (d e:bY) (B2 xh B3 l8:Option Addr) (E3 zK E4 mQ:Nat) (vs us:List Value) (h1:eA w d B2 vs B3) (h2:eA w e xh us l8) (hb:d.next.length<9223372036854775807) (jy: ∀r∈d.next,r.length<9223372036854775807) (j6:d.aA.length<9223372036854775807):
  bs Tryz.prog 16 [.agg (cB d B2 E3 B3 E4).toArray,.agg (cB e xh zK l8 mQ).toArray] w fun v N=>v=.bool (decide (d=e))∧True:=by
 refine av func16 F ntmps16 F ?_
 refine ai (aj F (cL (cs:=[(vI d.vars),(vI d.start),(.slice B2 d.next.length E3),(.slice B3 d.aA.length E4)]) F F (fun b1=>?_)))
 refine aj F (cL (cs:=[(vI e.vars),(vI e.start),(.slice xh e.next.length zK),(.slice l8 e.aA.length mQ)]) F F (fun b2=>?_))
 refine TO.qa F (ae (ai (ad (aJ underlying25 F aM F F) (ad (aO 1 underlying3 F F F F) (ad (aJ underlying25 F aM F F) (ad (aO 0 underlying3 F F F F) ?_))))))
 by_cases e1:d.vars=e.vars
 ·refine ad (ar (bo F F) (decide_eq_true e1)) ?_
  refine ah F (ap F F (aJ underlying25 F aM F F) (ap F F (aO 1 underlying3 F F F F) (ap F F (aJ underlying25 F aM F F) (ap F F (aO 0 underlying3 F F F F) ?_))))
  by_cases e2:d.start=e.start
  ·refine ap F F (ar (bo F F) (decide_eq_true e2)) ?_
   refine ad (bt F F) (ah F (ap F F (aJ underlying25 F cU F F) (ap F F (aO 1 underlying22 F F F F) (ap F F (aJ underlying25 F cU F F) (ap F F (aO 0 underlying22 F F F F) ?_)))))
   by_cases e3:d.next=e.next
   ·let dS:List Lx.Item:=[oI b2 25 [(vI e.vars),(vI e.start),(.slice xh e.next.length zK),(.slice l8 e.aA.length mQ)],oI b1 25 [(vI d.vars),(vI d.start),(.slice B2 d.next.length E3),(.slice B3 d.aA.length E4)]]
    have AX:=fun(w1:World) (hI:Inv w dS w1)=>x_ w1 B2 xh E3 zK vs us d.next e.next (hI.sl h1.outer) (hI.rows h1.rows) (hI.sl h2.outer) (hI.rows h2.rows) hb jy
    refine fL F F F (aI NH (aE AX) F ?_)
    clear AX
    rintro v O' ⟨N,rfl,rfl,rfl⟩
    rw[decide_eq_true e3]
    refine ad (bt F F) (ah F (ap F F (aJ underlying25 F ce F F) (ap F F (aO 1 underlying23 F F F F) (ap F F (aJ underlying25 F ce F F) (ap F F (aO 0 underlying23 F F F F) ?_)))))
    by_cases e4:d.aA=e.aA
    ·have oU:=fun(w1:World) (hI:Inv w dS w1)=>ws w1 B3 l8 E4 mQ d.aA e.aA (hI.sl h1.aA) (hI.sl h2.aA) j6
     refine fL F F F (aI NI (aE oU) F ?_)
     clear oU
     rintro v O' ⟨N,rfl,rfl,rfl⟩
     rw[decide_eq_true e4]
     refine ad (bt F F) (TO.qa F (ae (az ?_)))
     refine aG (.bool true) Tryz.results16 F ?_
     refine⟨congrArg Value.bool (decide_eq_true ?_).symm,trivial⟩
     cases d;cases e;simp only at e1 e2 e3 e4;rw[e1,e2,e3,e4]
    have oU:=fun(w1:World) (hI:Inv w [oI b2 25 [(vI e.vars),(vI e.start),(.slice xh e.next.length zK),(.slice l8 e.aA.length mQ)],oI b1 25 [(vI d.vars),(vI d.start),(.slice B2 d.next.length E3),(.slice B3 d.aA.length E4)]] w1)=>ws w1 B3 l8 E4 mQ d.aA e.aA (hI.sl h1.aA) (hI.sl h2.aA) j6
    refine fL F F F (aI NI (aE oU) F ?_)
    clear oU
    rintro v O' ⟨N,rfl,rfl,rfl⟩
    rw[decide_eq_false e4]
    refine ad (bt F F) (TO.qa F (ae (az ?_)))
    refine aG (.bool false) Tryz.results16 F ?_
    exact⟨congrArg Value.bool (decide_eq_false (fun q=>e4 (congrArg bY.aA q))).symm,trivial⟩
   have AX:=fun(w1:World) (hI:Inv w [oI b2 25 [(vI e.vars),(vI e.start),(.slice xh e.next.length zK),(.slice l8 e.aA.length mQ)],oI b1 25 [(vI d.vars),(vI d.start),(.slice B2 d.next.length E3),(.slice B3 d.aA.length E4)]] w1)=>x_ w1 B2 xh E3 zK vs us d.next e.next (hI.sl h1.outer) (hI.rows h1.rows) (hI.sl h2.outer) (hI.rows h2.rows) hb jy
   refine fL F F F (aI NH (aE AX) F ?_)
   clear AX
   rintro v O' ⟨N,rfl,rfl,rfl⟩
   rw[decide_eq_false e3]
   refine ad (bt F F) (ah F (ay F F (ay F F (ay F F (ay F F (ay F F (ad (aZ F F) (TO.qa F (ae (az ?_))))))))))
   refine aG (.bool false) Tryz.results16 F ?_
   exact⟨congrArg Value.bool (decide_eq_false (fun q=>e3 (congrArg bY.next q))).symm,trivial⟩
  refine ap F F (ar (bo F F) (decide_eq_false e2)) (ad (bt F F) (ah F (ay F F (ay F F (ay F F (ay F F (ay F F (ad (aZ F F) (ah F ?_)))))))))
  refine ay F F (ay F F (ay F F (ay F F (ay F F (ad (aZ F F) (TO.qa F (ae (az ?_))))))))
  refine aG (.bool false) Tryz.results16 F ?_
  exact⟨congrArg Value.bool (decide_eq_false (fun q=>e2 (congrArg bY.start q))).symm,trivial⟩
 refine ad (ar (bo F F) (decide_eq_false e1)) (ah F (ay F F (ay F F (ay F F (ay F F (ay F F (ad (aZ F F) (ah F (ay F F ?_)))))))))
 refine ay F F (ay F F (ay F F (ay F F (ad (aZ F F) (ah F (ay F F (ay F F (ay F F ?_))))))))
 refine ay F F (ay F F (ad (aZ F F) (TO.qa F (ae (az ?_)))))
 refine aG (.bool false) Tryz.results16 F ?_
 exact⟨congrArg Value.bool (decide_eq_false (fun q=>e1 (congrArg bY.vars q))).symm,trivial⟩
theorem Jc (w:World) (b1:Option Addr) (c1:Nat) (vs:List Value) (rs:List (List Int)) (h1:Sl w b1 vs) (Ra:mg w vs rs) (hb:rs.length*24≤70368744177664) (jy: ∀r∈rs,r.length*8≤70368744177664):
  bs Tryz.prog 33 [.slice b1 rs.length c1] w fun v N=> ∃b c qs,v=.slice b rs.length c∧N=ak b c 56 1 (bO qs)::bl 3 qs∧nums qs=rs:=by
 refine av func33 F ntmps33 F ?_
 refine ai (TO.qa F (ae (ai (TO.qa F (ae (ax (ai (TO.qa F (ae (aC (T.dt 56 1 ?_)))))))))))
 refine ck (fun(k:Nat) ρ O=> ∃(qs:List Rec) (ob:Option Addr) (oc:Nat),O=([ak ob oc 56 1 (bO qs)]++(bl 3 qs))∧k≤rs.length∧qs.length=k∧nums qs=rs.take k∧bZ [(0,(.slice b1 rs.length c1)),(2,nS),(3,(.slice ob k oc)),(4,vI (k:Int))] ρ) (fun k=>rs.length-k) 0 ?_ ?_
 ·exact⟨[],none,0,F,Nat.zero_le _,F,F,⟨F,F,F,F,trivial⟩⟩
 rintro k ρ O ⟨qs,ob,oc,rfl,hk,wO,rJ,hH⟩
 obtain⟨eP,rfl⟩:=hH.elim
 clear hH
 refine ax (ai (ah F (ah F (ad (bL underlying22 F) (ad (bI F F) (ae (aw F (fun hc=>?_) (fun hc=>?_))))))))
 ·have mH:k<rs.length:=by omega
  have eU:k<rs.length:=by omega
  obtain⟨Mw,Mx,g1,s1⟩:=Ra.get eU
  obtain⟨Xt,Xu,rfl⟩:=h1.addr (i:=k) (by rw[Ra.1];exact eU)
  have Kd:=jy _ (List.getElem_mem eU)
  refine aq (ax (aC (aH (ah F (ah F (ah F (ad (u3 underlying22 bP F F eU) (ad (jU underlying56 F F h1 g1) ?_))))))))
  have lN:=fun(w1:World) (hI:Inv w ([ak ob oc 56 1 (bO qs)]++(bl 3 qs)) w1)=>Jb w1 Mw Mx rs[k] (hI.sl s1) Kd
  refine aj F (aI UN (aE lN) F ?_)
  clear lN
  rintro v O' ⟨N,rfl,cb,cc,rfl,rfl⟩
  refine aj F (bN (v:=(.slice cb rs[k].length cc)) underlying22 bP F F F (fun b1=>?_))
  refine aj F (bX 2 underlying22 underlying22 bP F F F F (by simp[wO]) (by decide) (Src.row (j:=0) F (by simp)) (by simp[dD]) (by omega) (by decide) (by decide) (fun b2 c3=>?_))
  refine TO.qa F (ae ?_)
  refine cu (O':=ak b2 c3 56 1 (bO (qs++[⟨cb,cc,rs[k]⟩]))::bl 3 (qs++[⟨cb,cc,rs[k]⟩])) (by rw[show bO qs++[Value.slice cb rs[k].length cc]=bO (qs++[⟨cb,cc,rs[k]⟩]) by simp[Rec.val]];simp only[bl,List.map_append];exact Ft) ?_
  refine aH (ah F (ad (ey F F (by omega)) (TO.qa F (ae ?_))))
  refine⟨k+1,by omega,qs++[⟨cb,cc,rs[k]⟩],_,_,F,by omega,by simp[wO],?_,⟨F,F,F,F,trivial⟩⟩
  rw[List.take_succ_eq_append_getElem eU,←rJ];simp[nums]
 have Kk: ¬k<rs.length:=by omega
 refine bn ?_
 refine ai (ah F (TO.qa F (ae (az ?_))))
 refine aG (.slice ob k oc) Tryz.results33 F ?_
 have Gs:k=rs.length:=by omega
 subst Gs
 exact⟨ob,oc,qs,F,F,by rw[rJ,List.take_of_length_le (Nat.le_refl _)]⟩
theorem LX (w:World) (d:bY) (nb fb:Option Addr) (nc fc:Nat) (vs:List Value) (h:eA w d nb vs fb) (hb:d.next.length*24≤70368744177664) (jy: ∀r∈d.next,r.length*8≤70368744177664) (j6:d.aA.length*1≤70368744177664):
  bs Tryz.prog 12 [.agg (cB d nb nc fb fc).toArray] w fun v N=> ∃oF oG kI kJ qs,v=.agg (cB d oF oG kI kJ).toArray∧N=[ak oF oG 56 1 (bO qs),ak kI kJ 4 1 (aU d.aA)]++bl 3 qs∧nums qs=d.next:=by
 refine av func12 F ntmps12 F ?_
 refine ai (aj F (cL (cs:=[(vI d.vars),(vI d.start),(.slice nb d.next.length nc),(.slice fb d.aA.length fc)]) F F (fun b1=>?_)))
 refine aj F (aR aX F (fun b2=>?_))
 refine ae (ax ?_)
 refine dO [(0,0),(1,0),(2,0),(3,0),(4,0),(5,0),(7,0),(8,0),(6,1),(9,1),(10,0),(11,2)] ?_
 refine am F (aJ underlying25 F aM F F) (am F (aO 1 underlying3 F F F F) (am F (aJ underlying25 F aM F F) (am F (aO 1 underlying3 F F F F) (am F (aJ underlying25 F cU F F) (am F (aO 1 underlying22 F F F F) (am F (aJ underlying25 F ce F F) (am F (aO 1 underlying23 F F F F) ?_)))))))
 let gz:Lx.Item:=oI b1 25 [(vI d.vars),(vI d.start),(.slice nb d.next.length nc),(.slice fb d.aA.length fc)]
 let gn:Lx.Item:=oI b2 25 [(vI 0),(vI 0),nS,nS]
 have nF:=fun(w1:World) (hI:Inv w [gn,gz] w1)=>Jc w1 nb nc vs d.next (hI.sl h.outer) (hI.rows h.rows) hb jy
 refine bJ F F (aI UH (aE nF) F ?_)
 clear nF
 rintro v O' ⟨N,rfl,xh,zK,qs,rfl,rfl,rJ⟩
 refine⟨gd _ (au [0,0] F),?_⟩
 let gN:Lx.Item:=ak xh zK 56 1 (bO qs)
 refine de (O':=([gN,gn,gz]++(bl 3 qs))) (eB []) ?_
 have vQ:=fun(w1:World) (hI:Inv w ([gN,gn,gz]++(bl 3 qs)) w1)=>F0 w1 fb fc d.aA (hI.sl h.aA) j6
 refine bJ F F (aI UI (aE vQ) F ?_)
 clear vQ
 rintro v O' ⟨N,rfl,l8,mQ,rfl,rfl⟩
 refine⟨dN [2,2] [ak l8 mQ 4 1 (aU d.aA),gN,gn,gz] (bl 3 qs) F F,?_⟩
 let kn:Value:=(.slice l8 d.aA.length mQ)
 let kO:Value:=(.slice xh d.next.length zK)
 refine am F (bE (cs:=[(vI d.vars),(vI d.start),kO,kn]) gK aX (by kernel_rfl)) ?_
 refine bq F F (bj (vs:=[(vI d.vars),(vI d.start),kO,kn]) 2 aX F F F F ?_)
 refine bu ?_
 refine az (ao ?_)
 refine bf (i:=2) Tryz.results12 underlying25 F aX F F F ?_
 exact⟨[gN,ak l8 mQ 4 1 (aU d.aA)]++bl 3 qs,eB [oI b2 25 [(vI d.vars),(vI d.start),kO,kn],gz],xh,zK,l8,mQ,qs,F,F,rJ⟩
end Go.Proofs.YtgdbfideeeegmaaGreatDoor

namespace Go.Proofs.YtgdbfideeeegmaaGreatDoor
open Go.Lx Go.RowKit _root_.Go.Proofs.Tryz
theorem Mu (w:World) (v:Int):bs Tryz.prog 30 [vI v] w fun x N=>x=.bool (decide (0≤v∧v≤6))∧N=[]:=by
 refine av func30 F ntmps30 F ?_
 refine ai (TO.qa F (ae (ai (ah F ?_))))
 by_cases h4:0≤v
 ·refine ad (ar (gW F F) (decide_eq_true h4)) ?_
  refine ah F (ap F F (aF F) ?_)
  by_cases h7:v≤6
  ·refine ap F F (ar (zQ F F) (decide_eq_true h7)) ?_
   refine ad (bt F F) (TO.qa F (ae (az ?_)))
   refine aG (.bool true) Tryz.results30 F ?_
   exact⟨by simp[h4,h7],F⟩
  refine ap F F (ar (zQ F F) (decide_eq_false h7)) (ad (bt F F) (TO.qa F (ae (az ?_))))
  refine aG (.bool false) Tryz.results30 F ?_
  exact⟨by simp[h4,h7],F⟩
 refine ad (ar (gW F F) (decide_eq_false h4)) (ah F (ay F F (ay F F (ad (aZ F F) (TO.qa F (ae (az ?_)))))))
 refine aG (.bool false) Tryz.results30 F ?_
 exact⟨by simp[h4],F⟩
theorem uR (w:World) (v:Int) (h0:0≤v) (h6:v≤6):bs Tryz.prog 31 [vI v] w fun x N=>x=vN (2^v.toNat)∧N=[]:=by
 refine av func31 F ntmps31 F ?_
 refine ai (TO.qa F (ae (ai (ah F (ad (ef underlying3 underlying101 F (show IntKind.u64.wrap v=v by unfold IntKind.wrap;simp[IntKind.bits,IntKind.signed];omega)) (ad (mJ (v:=v.toNat) F (by show Value.int _ v=_;rw[Int.toNat_of_nonneg h0]) (by omega)) (TO.qa F (ae (az ?_)))))))))
 refine aG (vN (2^v.toNat)) Tryz.results31 F ?_
 exact⟨F,F⟩
theorem NZ (w:World) (b:Option Addr) (c:Nat) (xs:List Int) (x:Int) (h:Sl w b (ints xs)) (hb:xs.length<9223372036854775807):bs Tryz.prog 137 [.slice b xs.length c,vI x] w fun v N=>v=.bool (decide (x∈xs))∧N=[]:=by
 refine av func137 F ntmps137 F ?_
 refine ai (TO.qa F (ae (ax (ai (TO.qa F (ae (aC ?_)))))))
 refine ck (fun(k:Nat) ρ O=>O=[]∧k≤xs.length∧x∉xs.take k∧bZ [(0,(.slice b xs.length c)),(1,vI x),(5,vI (k:Int))] ρ) (fun k=>xs.length-k) 0 ?_ ?_
 ·exact⟨F,Nat.zero_le _,by simp,⟨F,F,F,trivial⟩⟩
 rintro k ρ O ⟨rfl,hk,hm,hH⟩
 obtain⟨eP,rfl⟩:=hH.elim
 clear hH
 refine ax (ai (ah F (ah F (ad (bL underlying56 F) (ad (bI F F) (ae (aw F (fun hc=>?_) (fun hc=>?_))))))))
 ·have iQ:k<xs.length:=by omega
  refine aq (ax (aC (ai (ah F (ah F (ad (cq (i:=k) underlying56 aM F F (aB h)) (ad (bS underlying3 F F (aB h) d_) (ah F (ad (bo F F) (ae (aw F (fun hc=>?_) (fun hc=>?_))))))))))))
  ·refine ax ?_
   refine aH (TO.qa F (ae (az ?_)))
   refine aG (.bool true) Tryz.results137 F ?_
   exact⟨congrArg Value.bool (decide_eq_true (by rw[←hc];exact List.getElem_mem _)).symm,F⟩
  refine aq (aH (ah F (ad (ey F F (by omega)) (TO.qa F (ae ?_)))))
  refine⟨k+1,by omega,F,by omega,?_,⟨F,F,F,trivial⟩⟩
  rw[List.take_succ_eq_append_getElem iQ]
  simp only[List.mem_append,List.mem_singleton,not_or]
  exact⟨hm,fun e=>hc e.symm⟩
 have Fa: ¬k<xs.length:=by omega
 refine bn ?_
 refine ai (TO.qa F (ae (az ?_)))
 refine aG (.bool false) Tryz.results137 F ?_
 exact⟨congrArg Value.bool (decide_eq_false (by rwa[List.take_of_length_le (by omega)]at hm)).symm,F⟩
theorem rp (w:World) (d:bY) (nb fb:Option Addr) (nc fc:Nat) (vs:List Value) (h:eA w d nb vs fb) (hb:d.next.length<9223372036854775807) (jy: ∀r∈d.next,r.length<9223372036854775807) (j6:d.aA.length<9223372036854775807):
  bs Tryz.prog 10 [.agg (cB d nb nc fb fc).toArray] w fun v N=>v=vI (bW d:Int)∧N=[]:=by
 refine av func10 F ntmps10 F ?_
 have ut:=h.rows.1
 refine ai (aj F (cL (cs:=[(vI d.vars),(vI d.start),(.slice nb d.next.length nc),(.slice fb d.aA.length fc)]) F F (fun b1=>?_)))
 refine TO.qa F (ae (ai (ad (aJ underlying25 F cU F F) (ad (aO 0 underlying22 F F F F) (ad (bL underlying22 F) (TO.qa F (ae (ax (ai (ad (aJ underlying25 F aM F F) (ad (aO 0 underlying3 F F F F) ?_)))))))))))
 by_cases hv:0≤d.vars∧d.vars≤6
 ·let dS:List Lx.Item:=[oI b1 25 [(vI d.vars),(vI d.start),(.slice nb d.next.length nc),(.slice fb d.aA.length fc)]]
  have ly:=fun(w1:World) (hI:Inv w dS w1)=>Mu w1 d.vars
  refine aj F (aI Mv (aE ly) F ?_)
  clear ly
  rintro v O' ⟨N,rfl,rfl,rfl⟩
  rw[decide_eq_true hv]
  refine ad (f_ F) (ae (aL F (aq (ax (ai (ah F (ad (bo F F) (ae (aw F (fun hc=>?_) (fun hc=>?_))))))))))
  ·have me:d.next.length=0:=by omega
   refine ai (TO.qa F (ae (az (ao ?_))))
   refine aG (vI 3) Tryz.results10 F ?_
   refine⟨[],a_ (List.nil_sublist _),congrArg (fun z:Nat=>Value.int .i64 (z:Int)) (show 3=bW d from Eq.symm ?_),F⟩
   unfold bW
   rw[if_neg (by simp;exact hv),if_pos me]
  have mR: ¬d.next.length=0:=by omega
  refine aq (ax (ai (ah F (ad (fw F F) (ae (aw F (fun hc=>?_) (fun hc=>?_)))))))
  ·have uS:d.next.length>4096:=by omega
   refine ai (TO.qa F (ae (az (ao ?_))))
   refine aG (vI 4) Tryz.results10 F ?_
   refine⟨[],a_ (List.nil_sublist _),congrArg (fun z:Nat=>Value.int .i64 (z:Int)) (show 4=bW d from Eq.symm ?_),F⟩
   unfold bW
   rw[if_neg (by simp;exact hv),if_neg mR,if_pos uS]
  have xj: ¬d.next.length>4096:=by omega
  refine aq (ax (ai (ad (aJ underlying25 F ce F F) (ad (aO 0 underlying23 F F F F) (ad (bL underlying23 F) (ah F (ad (cS F F) (ae (aw F (fun hc=>?_) (fun hc=>?_))))))))))
  ·have jA:d.aA.length≠d.next.length:=by omega
   refine ai (TO.qa F (ae (az (ao ?_))))
   refine aG (vI 2) Tryz.results10 F ?_
   refine⟨[],a_ (List.nil_sublist _),congrArg (fun z:Nat=>Value.int .i64 (z:Int)) (show 2=bW d from Eq.symm ?_),F⟩
   unfold bW
   rw[if_neg (by simp;exact hv),if_neg mR,if_neg xj,if_pos jA]
  have nW: ¬d.aA.length≠d.next.length:=by omega
  refine aq (ax (ai (ad (aJ underlying25 F aM F F) (ad (aO 0 underlying3 F F F F) ?_))))
  by_cases sB:d.start<0
  ·refine ad (ar (bI F F) (decide_eq_true sB)) ?_
   refine ah F (ay F F (ay F F (ay F F (ay F F (ad (bt F F) (ae ?_))))))
   refine bg F ?_
   refine ai (TO.qa F (ae (az (ao ?_))))
   refine aG (vI 8) Tryz.results10 F ?_
   refine⟨[],a_ (List.nil_sublist _),congrArg (fun z:Nat=>Value.int .i64 (z:Int)) (show 8=bW d from Eq.symm ?_),F⟩
   unfold bW
   rw[if_neg (by simp;exact hv),if_neg mR,if_neg xj,if_neg (by simpa using nW),if_pos (.inl sB)]
  refine ad (ar (bI F F) (decide_eq_false sB)) (ah F (ap F F (aJ underlying25 F aM F F) (ap F F (aO 0 underlying3 F F F F) (ap F F (aF F) ?_))))
  by_cases J1:(d.next.length:Int)≤d.start
  ·refine ap F F (ar (gW F F) (decide_eq_true J1)) ?_
   refine ad (aZ F F) (ae ?_)
   refine bg F ?_
   refine ai (TO.qa F (ae (az (ao ?_))))
   refine aG (vI 8) Tryz.results10 F ?_
   refine⟨[],a_ (List.nil_sublist _),congrArg (fun z:Nat=>Value.int .i64 (z:Int)) (show 8=bW d from Eq.symm ?_),F⟩
   unfold bW
   rw[if_neg (by simp;exact hv),if_neg mR,if_neg xj,if_neg (by simpa using nW),if_pos (.inr J1)]
  refine ap F F (ar (gW F F) (decide_eq_false J1)) (ad (aZ F F) (ae (aL F (aq (ax (ai (TO.qa F (ae (aC ?_)))))))))
  let gz:Value:=(.agg #[(vI d.vars),(vI d.start),(.slice nb d.next.length nc),(.slice fb d.aA.length fc)])
  refine ck (fun(k:Nat) ρ O=>O=dS∧k≤d.next.length∧p8 (2^d.vars.toNat) d.next.length (d.next.drop k)=bW d∧bZ [(0,gz),(1,(.pointer (aD b1))),(3,vI (d.next.length:Int)),(4,vI (k:Int))] ρ) (fun k=>d.next.length-k) 0 ?_ ?_
  ·refine⟨F,Nat.zero_le _,?_,⟨F,F,F,F,trivial⟩⟩
   unfold bW
   rw[if_neg (by simp;exact hv),if_neg mR,if_neg xj,if_neg (by simp;omega),if_neg (by omega)];rfl
  rintro k ρ O ⟨rfl,hk,hr,hH⟩
  obtain⟨eP,rfl⟩:=hH.elim
  clear hH
  refine ax (ai (ah F (ah F (ad (bI F F) (ae (aw F (fun hc=>?_) (fun hc=>?_)))))))
  ·have xk:k<d.next.length:=by omega
   obtain⟨Mw,Mx,g1,s1⟩:=h.rows.get xk
   have yw:=jy _ (List.getElem_mem xk)
   refine aq (ax (aC (ax (ax ?_))))
   refine dO [(0,0),(1,0),(2,0),(3,0),(4,0),(5,0),(6,0),(7,0),(8,1),(9,0)] ?_
   refine am F (aJ underlying25 F cU F F) (am F (aO 0 underlying22 F F F F) (am F (aF F) (am F (cq (i:=k) underlying22 bP F F (aB h.outer)) (am F (bS underlying56 F F (aB h.outer) g1) (am F (bL underlying56 F) (am F (aJ underlying25 F aM F F) (am F (aO 0 underlying3 F F F F) ?_)))))))
   have uT:=fun(w1:World) (hI:Inv w dS w1)=>uR w1 d.vars hv.1 hv.2
   refine bJ F F (aI GL (aE uT) F ?_)
   clear uT
   rintro v O' ⟨N,rfl,rfl,rfl⟩
   refine⟨au [0] F,?_⟩
   refine am F (cS F F) ?_
   refine bu ?_
   refine aw F (fun hc=>?_) (fun hc=>?_)
   ·have GM:d.next[k].length≠2^d.vars.toNat:=by omega
    refine ai (TO.qa F (ae (az (ao ?_))))
    refine aG (vI 2) Tryz.results10 F ?_
    refine⟨[],a_ (List.nil_sublist _),congrArg (fun z:Nat=>Value.int .i64 (z:Int)) (show 2=bW d from Eq.symm ?_),F⟩
    rw[←hr,kq xk,if_pos GM]
   have xl: ¬d.next[k].length≠2^d.vars.toNat:=by omega
   refine aq (ai (TO.qa F (ae (aC ?_))))
   refine ck (fun(j:Nat) ρ O=>O=dS∧j≤d.next[k].length∧kW d.next.length (d.next[k].take j)=true∧bZ [(0,gz),(1,(.pointer (aD b1))),(3,vI (d.next.length:Int)),(4,vI (k:Int)),(5,vI (j:Int))] ρ) (fun j=>d.next[k].length-j) 0 ?_ ?_
   ·exact⟨F,Nat.zero_le _,F,(.of F)⟩
   rintro j ρ O ⟨rfl,hj,My,hH⟩
   obtain⟨eP,rfl⟩:=hH.elim
   clear hH
   refine ax (ai (ah F (ad (aJ underlying25 F cU F F) (ad (aO 0 underlying22 F F F F) (ah F (ad (cq (i:=k) underlying22 bP F F (aB h.outer)) (ad (bS underlying56 F F (aB h.outer) g1) (ad (bL underlying56 F) (ad (bI F F) (ae (aw F (fun hc=>?_) (fun hc=>?_))))))))))))
   ·have GN:j<d.next[k].length:=by omega
    refine aq (ax (aC (ai (ad (aJ underlying25 F cU F F) (ad (aO 0 underlying22 F F F F) (ah F (ad (cq (i:=k) underlying22 bP F F (aB h.outer)) (ad (bS underlying56 F F (aB h.outer) g1) (ah F (ad (cq (i:=j) underlying56 aM F F (aB s1)) (ad (bS underlying3 F F (aB s1) d_) ?_)))))))))))
    by_cases Kn:d.next[k][j]<0
    ·refine ad (ar (bI F F) (decide_eq_true Kn)) ?_
     refine ah F (ay F F (ay F F (ay F F (ay F F (ay F F (ay F F (ay F F ?_)))))))
     refine ay F F (ay F F (ay F F (ad (bt F F) (ae ?_))))
     refine bg F ?_
     refine ai (TO.qa F (ae (az (ao ?_))))
     refine aG (vI 8) Tryz.results10 F ?_
     refine⟨[],a_ (List.nil_sublist _),congrArg (fun z:Nat=>Value.int .i64 (z:Int)) (show 8=bW d from Eq.symm ?_),F⟩
     rw[←hr,kq xk,if_neg (by simpa using xl),if_neg (xm GN (.inl Kn))]
    refine ad (ar (bI F F) (decide_eq_false Kn)) (ah F (ap F F (aJ underlying25 F cU F F) (ap F F (aO 0 underlying22 F F F F) (ap F F (aF F) (ap F F (cq (i:=k) underlying22 bP F F (aB h.outer)) (ap F F (bS underlying56 F F (aB h.outer) g1) (ap F F (aF F) (ap F F (cq (i:=j) underlying56 aM F F (aB s1)) ?_))))))))
    refine ap F F (bS underlying3 F F (aB s1) d_) (ap F F (aF F) ?_)
    by_cases N0:(d.next.length:Int)≤d.next[k][j]
    ·refine ap F F (ar (gW F F) (decide_eq_true N0)) ?_
     refine ad (aZ F F) (ae ?_)
     refine bg F ?_
     refine ai (TO.qa F (ae (az (ao ?_))))
     refine aG (vI 8) Tryz.results10 F ?_
     refine⟨[],a_ (List.nil_sublist _),congrArg (fun z:Nat=>Value.int .i64 (z:Int)) (show 8=bW d from Eq.symm ?_),F⟩
     rw[←hr,kq xk,if_neg (by simpa using xl),if_neg (xm GN (.inr N0))]
    refine ap F F (ar (gW F F) (decide_eq_false N0)) (ad (aZ F F) (ae (aL F (aq (aH (ah F (ad (ey F F (by omega)) (TO.qa F (ae ?_)))))))))
    exact⟨j+1,by omega,F,by omega,Cl GN My Kn N0,(.of F)⟩
   have X5: ¬j<d.next[k].length:=by omega
   refine bn ?_
   refine aH (ah F (ad (ey F F (by omega)) (TO.qa F (ae ?_))))
   refine⟨k+1,by omega,F,by omega,?_,⟨F,F,F,F,trivial⟩⟩
   rw[←hr,kq xk,if_neg (by simpa using xl),if_pos (Cm (by omega) My)]
  have X6: ¬k<d.next.length:=by omega
  refine bn ?_
  refine ai (TO.qa F (ae (az (ao ?_))))
  refine aG (vI 0) Tryz.results10 F ?_
  refine⟨[],a_ (List.nil_sublist _),congrArg (fun z:Nat=>Value.int .i64 (z:Int)) (show 0=bW d from Eq.symm ?_),F⟩
  rw[←hr,xn (by omega)]
 have ly:=fun(w1:World) (hI:Inv w [oI b1 25 [(vI d.vars),(vI d.start),(.slice nb d.next.length nc),(.slice fb d.aA.length fc)]] w1)=>Mu w1 d.vars
 refine aj F (aI Mv (aE ly) F ?_)
 clear ly
 rintro v O' ⟨N,rfl,rfl,rfl⟩
 rw[decide_eq_false hv]
 refine ad (f_ F) (ae ?_)
 refine bg F ?_
 refine ai (TO.qa F (ae (az (ao ?_))))
 refine aG (vI 7) Tryz.results10 F ?_
 refine⟨[],a_ (List.nil_sublist _),congrArg (fun z:Nat=>Value.int .i64 (z:Int)) (show 7=bW d from Eq.symm ?_),F⟩
 unfold bW
 rw[if_pos hv]
theorem Fb (w:World) (b:Option Addr) (c:Nat) (xs:List Int) (h:Sl w b (ints xs)) (h0:0<xs.length) (hb:xs.length<9223372036854775807):bs Tryz.prog 121 [.slice b xs.length c] w fun v N=>(∃m,v=vI m∧m∈xs∧ ∀x∈xs,m≤x)∧N=[]:=by
 refine av func121 F ntmps121 F ?_
 refine ai (TO.qa F (ae (ax (ai (ah F (ad (bL underlying56 F) (ad (bI F F) (ae (aw F (fun hc=>?_) (fun hc=>?_))))))))))
 ·exact absurd hc (by omega)
 have V7: ¬xs.length<1:=by omega
 refine aq (ai (ah F (ad (cq (i:=0) underlying56 aM F F (aB h)) (ad (bS underlying3 F F (aB h) d_) (TO.qa F (ae (ax (ai (TO.qa F (ae (aC ?_)))))))))))
 refine ck (fun(k:Nat) ρ O=> ∃(m:Int),O=[]∧1≤k∧k≤xs.length∧m∈xs.take k∧(∀x∈xs.take k,m≤x)∧bZ [(0,(.slice b xs.length c)),(2,vI 0),(3,vI m),(4,vI (k:Int))] ρ) (fun k=>xs.length-k) 1 ?_ ?_
 ·refine⟨xs[0],F,Nat.le_refl _,h0,?_,?_,⟨F,F,F,F,trivial⟩⟩
  ·show xs[0]∈xs.take (0+1)
   rw[List.take_succ_eq_append_getElem h0];simp
  ·show∀x∈xs.take (0+1),_
   rw[List.take_succ_eq_append_getElem h0];simp
 rintro k ρ O ⟨m,rfl,Vm,hk,hm,ku,hH⟩
 obtain⟨eP,rfl⟩:=hH.elim
 clear hH
 refine ax (ai (ah F (ah F (ad (bL underlying56 F) (ad (bI F F) (ae (aw F (fun hc=>?_) (fun hc=>?_))))))))
 ·have oq:k<xs.length:=by omega
  refine aq (ax (aC (aH (ah F (ah F (ah F (ad (cq (i:=k) underlying56 aM F F (aB h)) (ad (bS underlying3 F F (aB h) d_) (ad (RA F F) (TO.qa F (ae (aH (ah F (ad (ey F F (by omega)) (TO.qa F (ae ?_))))))))))))))))
  refine⟨k+1,by omega,if xs[k]<m then xs[k]else m,F,by omega,by omega,?_,?_,⟨F,F,F,F,trivial⟩⟩
  ·rw[List.take_succ_eq_append_getElem oq];split
   ·exact List.mem_append_right _ (List.mem_singleton.2 F)
   ·exact List.mem_append_left _ hm
  ·rw[List.take_succ_eq_append_getElem oq]
   intro x hx
   rcases List.mem_append.1 hx with hx|hx
   ·have:=ku x hx;split<;>omega
   ·rw[List.mem_singleton]at hx;subst hx;split<;>omega
 have Mz: ¬k<xs.length:=by omega
 refine bn ?_
 refine ai (ah F (TO.qa F (ae (az ?_))))
 refine aG (vI m) Tryz.results121 F ?_
 rw[List.take_of_length_le (by omega)]at hm ku
 exact⟨⟨m,F,hm,ku⟩,F⟩
theorem Fc (w:World) (b:Option Addr) (c:Nat) (xs:List Int) (h:Sl w b (ints xs)) (h0:0<xs.length) (hb:xs.length<9223372036854775807):bs Tryz.prog 122 [.slice b xs.length c] w fun v N=>(∃m,v=vI m∧m∈xs∧ ∀x∈xs,x≤m)∧N=[]:=by
 refine av func122 F ntmps122 F ?_
 refine ai (TO.qa F (ae (ax (ai (ah F (ad (bL underlying56 F) (ad (bI F F) (ae (aw F (fun hc=>?_) (fun hc=>?_))))))))))
 ·exact absurd hc (by omega)
 have V7: ¬xs.length<1:=by omega
 refine aq (ai (ah F (ad (cq (i:=0) underlying56 aM F F (aB h)) (ad (bS underlying3 F F (aB h) d_) (TO.qa F (ae (ax (ai (TO.qa F (ae (aC ?_)))))))))))
 refine ck (fun(k:Nat) ρ O=> ∃(m:Int),O=[]∧1≤k∧k≤xs.length∧m∈xs.take k∧(∀x∈xs.take k,x≤m)∧bZ [(0,(.slice b xs.length c)),(2,vI 0),(3,vI m),(4,vI (k:Int))] ρ) (fun k=>xs.length-k) 1 ?_ ?_
 ·refine⟨xs[0],F,Nat.le_refl _,h0,?_,?_,⟨F,F,F,F,trivial⟩⟩
  ·show xs[0]∈xs.take (0+1)
   rw[List.take_succ_eq_append_getElem h0];simp
  ·show∀x∈xs.take (0+1),_
   rw[List.take_succ_eq_append_getElem h0];simp
 rintro k ρ O ⟨m,rfl,Vm,hk,hm,ku,hH⟩
 obtain⟨eP,rfl⟩:=hH.elim
 clear hH
 refine ax (ai (ah F (ah F (ad (bL underlying56 F) (ad (bI F F) (ae (aw F (fun hc=>?_) (fun hc=>?_))))))))
 ·have oq:k<xs.length:=by omega
  refine aq (ax (aC (aH (ah F (ah F (ah F (ad (cq (i:=k) underlying56 aM F F (aB h)) (ad (bS underlying3 F F (aB h) d_) (ad (RB F F) (TO.qa F (ae (aH (ah F (ad (ey F F (by omega)) (TO.qa F (ae ?_))))))))))))))))
  refine⟨k+1,by omega,if xs[k]>m then xs[k]else m,F,by omega,by omega,?_,?_,⟨F,F,F,F,trivial⟩⟩
  ·rw[List.take_succ_eq_append_getElem oq];split
   ·exact List.mem_append_right _ (List.mem_singleton.2 F)
   ·exact List.mem_append_left _ hm
  ·rw[List.take_succ_eq_append_getElem oq]
   intro x hx
   rcases List.mem_append.1 hx with hx|hx
   ·have:=ku x hx;split<;>omega
   ·rw[List.mem_singleton]at hx;subst hx;split<;>omega
 have Mz: ¬k<xs.length:=by omega
 refine bn ?_
 refine ai (ah F (TO.qa F (ae (az ?_))))
 refine aG (vI m) Tryz.results122 F ?_
 rw[List.take_of_length_le (by omega)]at hm ku
 exact⟨⟨m,F,hm,ku⟩,F⟩
theorem mf (w:World) (d:bY) (nb fb:Option Addr) (nc fc:Nat) (vs:List Value) (h:eA w d nb vs fb) (hb:d.next.length<9223372036854775807) (jy: ∀r∈d.next,r.length<9223372036854775807) (j6:d.aA.length<9223372036854775807):
  bs Tryz.prog 83 [.agg (cB d nb nc fb fc).toArray] w fun v N=>v=vI (bW d:Int)∧N=[]:=by
 refine av func83 F ntmps83 F ?_
 have ut:=h.rows.1
 let gN:Value:=(.slice nb d.next.length nc)
 refine ai (aj F (cL (cs:=[(vI d.vars),(vI d.start),gN,(.slice fb d.aA.length fc)]) F F (fun b1=>?_)))
 refine TO.qa F (ae (ai (ad (aJ underlying25 F cU F F) (ad (aO 0 underlying22 F F F F) (ad (bL underlying22 F) (TO.qa F (ae (ax (aC (ai (ad (aJ underlying25 F aM F F) (ad (aO 0 underlying3 F F F F) ?_))))))))))))
 by_cases Ko:d.vars<0
 ·refine ad (ar (bI F F) (decide_eq_true Ko)) ?_
  refine ah F (ay F F (ay F F (ay F F (ad (bt F F) (TO.qa F (ae ?_))))))
  refine bg F ?_
  refine ai (TO.qa F (ae (az (ao ?_))))
  refine aG (vI 7) Tryz.results83 F ?_
  refine⟨[],a_ (List.nil_sublist _),congrArg (fun z:Nat=>Value.int .i64 (z:Int)) (show 7=bW d from Eq.symm ?_),F⟩
  unfold bW
  rw[if_pos (by omega)]
 refine ad (ar (bI F F) (decide_eq_false Ko)) (ah F (ap F F (aJ underlying25 F aM F F) (ap F F (aO 0 underlying3 F F F F) ?_)))
 by_cases N1:6<d.vars
 ·refine ap F F (ar (fw F F) (decide_eq_true N1)) ?_
  refine ad (aZ F F) (TO.qa F (ae ?_))
  refine bg F ?_
  refine ai (TO.qa F (ae (az (ao ?_))))
  refine aG (vI 7) Tryz.results83 F ?_
  refine⟨[],a_ (List.nil_sublist _),congrArg (fun z:Nat=>Value.int .i64 (z:Int)) (show 7=bW d from Eq.symm ?_),F⟩
  unfold bW
  rw[if_pos (by omega)]
 refine ap F F (ar (fw F F) (decide_eq_false N1)) (ad (aZ F F) (TO.qa F (ae (aL F (ai (ah F (ad (bo F F) (TO.qa F (ae (aw F (fun hc=>?_) (fun hc=>?_)))))))))))
 ·have MC:d.next.length=0:=by omega
  refine ai (TO.qa F (ae (az (ao ?_))))
  refine aG (vI 3) Tryz.results83 F ?_
  refine⟨[],a_ (List.nil_sublist _),congrArg (fun z:Nat=>Value.int .i64 (z:Int)) (show 3=bW d from Eq.symm ?_),F⟩
  unfold bW
  rw[if_neg (by simp;omega),if_pos MC]
 have xo: ¬d.next.length=0:=by omega
 refine ai (ah F (ad (fw F F) (TO.qa F (ae (aw F (fun hc=>?_) (fun hc=>?_))))))
 ·have jA:d.next.length>4096:=by omega
  refine ai (TO.qa F (ae (az (ao ?_))))
  refine aG (vI 4) Tryz.results83 F ?_
  refine⟨[],a_ (List.nil_sublist _),congrArg (fun z:Nat=>Value.int .i64 (z:Int)) (show 4=bW d from Eq.symm ?_),F⟩
  unfold bW
  rw[if_neg (by simp;omega),if_neg xo,if_pos jA]
 have nW: ¬d.next.length>4096:=by omega
 refine ai (ad (aJ underlying25 F ce F F) (ad (aO 0 underlying23 F F F F) (ad (bL underlying23 F) (ah F (ad (cS F F) (TO.qa F (ae (aw F (fun hc=>?_) (fun hc=>?_)))))))))
 ·have gE:d.aA.length≠d.next.length:=by omega
  refine ai (TO.qa F (ae (az (ao ?_))))
  refine aG (vI 2) Tryz.results83 F ?_
  refine⟨[],a_ (List.nil_sublist _),congrArg (fun z:Nat=>Value.int .i64 (z:Int)) (show 2=bW d from Eq.symm ?_),F⟩
  unfold bW
  rw[if_neg (by simp;omega),if_neg xo,if_neg nW,if_pos gE]
 have xp: ¬d.aA.length≠d.next.length:=by omega
 refine ai (ad (aJ underlying25 F aM F F) (ad (aO 0 underlying3 F F F F) ?_))
 by_cases sB:d.start<0
 ·refine ad (ar (bI F F) (decide_eq_true sB)) ?_
  refine ah F (ay F F (ay F F (ay F F (ay F F (ad (bt F F) (TO.qa F (ae ?_)))))))
  refine bg F ?_
  refine ai (TO.qa F (ae (az (ao ?_))))
  refine aG (vI 8) Tryz.results83 F ?_
  refine⟨[],a_ (List.nil_sublist _),congrArg (fun z:Nat=>Value.int .i64 (z:Int)) (show 8=bW d from Eq.symm ?_),F⟩
  unfold bW
  rw[if_neg (by simp;omega),if_neg xo,if_neg nW,if_neg (by simpa using xp),if_pos (by omega)]
 refine ad (ar (bI F F) (decide_eq_false sB)) (ah F (ap F F (aJ underlying25 F aM F F) (ap F F (aO 0 underlying3 F F F F) (ap F F (aF F) ?_))))
 by_cases J1:(d.next.length:Int)≤d.start
 ·refine ap F F (ar (gW F F) (decide_eq_true J1)) ?_
  refine ad (aZ F F) (TO.qa F (ae ?_))
  refine bg F ?_
  refine ai (TO.qa F (ae (az (ao ?_))))
  refine aG (vI 8) Tryz.results83 F ?_
  refine⟨[],a_ (List.nil_sublist _),congrArg (fun z:Nat=>Value.int .i64 (z:Int)) (show 8=bW d from Eq.symm ?_),F⟩
  unfold bW
  rw[if_neg (by simp;omega),if_neg xo,if_neg nW,if_neg (by simpa using xp),if_pos (by omega)]
 refine ap F F (ar (gW F F) (decide_eq_false J1)) (ad (aZ F F) (TO.qa F (ae (aL F (aq (ax (ai (ad (aJ underlying25 F cU F F) (ad (aO 0 underlying22 F F F F) (ad (bL underlying22 F) (ah F (ae (aC ?_)))))))))))))
 let gn:Lx.Item:=oI b1 25 [(vI d.vars),(vI d.start),(.slice nb d.next.length nc),(.slice fb d.aA.length fc)]
 refine ck (fun(k:Nat) ρ O=>O=[gn]∧k≤d.next.length∧p8 (2^d.vars.toNat) d.next.length (d.next.drop k)=bW d∧bZ [(0,(.agg #[(vI d.vars),(vI d.start),gN,(.slice fb d.aA.length fc)])),(1,(.pointer (aD b1))),(3,vI (d.next.length:Int)),(9,.bool false),(18,.bool (decide ((d.next.length:Int)=0))),(21,.bool (decide ((d.next.length:Int)>4096))),(24,.bool (decide ((d.aA.length:Int)≠(d.next.length:Int)))),(30,.bool false),(41,gN),(42,vI (d.next.length:Int)),(43,vI (k:Int))] ρ) (fun k=>d.next.length-k) 0 ?_ ?_
 ·refine⟨F,Nat.zero_le _,?_,(.of F)⟩
  unfold bW
  rw[if_neg (by simp;omega),if_neg xo,if_neg nW,if_neg (by simpa using xp),if_neg (by omega)];rfl
 rintro k ρ O ⟨rfl,hk,hr,hH⟩
 obtain⟨eP,rfl⟩:=hH.elim
 clear hH
 refine ai (ad (bI F F) (ae (ax (aw F (fun hc=>?_) (fun hc=>?_)))))
 ·have kv:k<d.next.length:=by omega
  obtain⟨Mw,Mx,g1,s1⟩:=h.rows.get kv
  have yw:=jy _ (List.getElem_mem kv)
  refine aq (ax (aC (ai (ad (cq (i:=k) underlying22 bP F F (aB h.outer)) (ad (bS underlying56 F F (aB h.outer) g1) (TO.qa F (ae (ax (ai (ah F (ad (bL underlying56 F) (ad (aJ underlying25 F aM F F) (ad (aO 0 underlying3 F F F F) (ad (mJ (v:=d.vars.toNat) F (by show Value.int _ d.vars=_;rw[Int.toNat_of_nonneg (by omega)]) (by omega)) (ad (cS F F) (ae (aw F (fun hc=>?_) (fun hc=>?_))))))))))))))))))
  ·have MD:d.next[k].length≠2^d.vars.toNat:=by omega
   refine ai (TO.qa F (ae (az (ao ?_))))
   refine aG (vI 2) Tryz.results83 F ?_
   refine⟨[],a_ (List.nil_sublist _),congrArg (fun z:Nat=>Value.int .i64 (z:Int)) (show 2=bW d from Eq.symm ?_),F⟩
   rw[←hr,kq kv,if_pos MD]
  have DA: ¬d.next[k].length≠2^d.vars.toNat:=by omega
  have ME:0<d.next[k].length:=by
   have:=Nat.pow_pos (n:=d.vars.toNat) (show 0<2 by omega)
   omega
  refine aq (ai (ah F ?_))
  have zR:=fun(w1:World) (hI:Inv w [gn] w1)=>Fb w1 Mw Mx d.next[k] (hI.sl s1) ME yw
  refine aj F (aI N2 (aE zR) F ?_)
  clear zR
  rintro v O' ⟨N,rfl,⟨m1,rfl,Zz,RC⟩,rfl⟩
  by_cases Kn:m1<0
  ·refine ad (ar (bI F F) (decide_eq_true Kn)) ?_
   refine ah F (ay F F (ay F F (ay F F (ay F F (ad (bt F F) (ae ?_))))))
   refine bg F ?_
   refine ai (TO.qa F (ae (az (ao ?_))))
   refine aG (vI 8) Tryz.results83 F ?_
   refine⟨[],a_ (List.nil_sublist _),congrArg (fun z:Nat=>Value.int .i64 (z:Int)) (show 8=bW d from Eq.symm ?_),F⟩
   rw[←hr,kq kv,if_neg (by simpa using DA),if_neg ?_]
   intro hh
   simp only[kW,List.all_eq_true,Bool.and_eq_true,decide_eq_true_eq]at hh
   have:=hh _ Zz;omega
  refine ad (ar (bI F F) (decide_eq_false Kn)) (ah F (ap F F (aF F) ?_))
  have zS:=fun(w1:World) (hI:Inv w [gn] w1)=>Fc w1 Mw Mx d.next[k] (hI.sl s1) ME yw
  refine fL F F F (aI N3 (aE zS) F ?_)
  clear zS
  rintro v O' ⟨N,rfl,⟨m2,rfl,uu,RD⟩,rfl⟩
  refine ap F F (aF F) ?_
  by_cases N0:(d.next.length:Int)≤m2
  ·refine ap F F (ar (gW F F) (decide_eq_true N0)) ?_
   refine ad (aZ F F) (ae ?_)
   refine bg F ?_
   refine ai (TO.qa F (ae (az (ao ?_))))
   refine aG (vI 8) Tryz.results83 F ?_
   refine⟨[],a_ (List.nil_sublist _),congrArg (fun z:Nat=>Value.int .i64 (z:Int)) (show 8=bW d from Eq.symm ?_),F⟩
   rw[←hr,kq kv,if_neg (by simpa using DA),if_neg ?_]
   intro hh
   simp only[kW,List.all_eq_true,Bool.and_eq_true,decide_eq_true_eq]at hh
   have:=hh _ uu;omega
  refine ap F F (ar (gW F F) (decide_eq_false N0)) (ad (aZ F F) (ae (aL F (aq (aH (ad (ey F F (by omega)) (ah F (ae ?_))))))))
  refine⟨k+1,by omega,F,by omega,?_,(.of F)⟩
  rw[←hr,kq kv,if_neg (by simpa using DA),if_pos ?_]
  simp only[kW,List.all_eq_true,Bool.and_eq_true,decide_eq_true_eq]
  intro x hx
  have:=RC x hx;have:=RD x hx;omega
 have MF: ¬k<d.next.length:=by omega
 refine bn ?_
 refine ai (TO.qa F (ae (az (ao ?_))))
 refine aG (vI 0) Tryz.results83 F ?_
 refine⟨[],a_ (List.nil_sublist _),congrArg (fun z:Nat=>Value.int .i64 (z:Int)) (show 0=bW d from Eq.symm ?_),F⟩
 rw[←hr,xn (by omega)]
end Go.Proofs.YtgdbfideeeegmaaGreatDoor

namespace Go.Proofs
open Go.Shelf
def Tryz.BZ:Go.Shelf.Ren:=⟨fun|283=>214|n=>n,fun|3=>3|9=>9|4=>4|n=>n,fun|n=>n⟩
theorem Tryz.Mo:Go.Proofs.Lays.n283 Tryz.prog Tryz.BZ:= {
 mixed:=by kernel_rfl
 f283:=Tryz.func214.trans (congrArg some (by kernel_rfl))
 t3:=Tryz.underlying3
 a3:=Tryz.isAgg3
 z3:=Tryz.sizeOf3
 v3:=Tryz.zeroValue3
 t4:=Tryz.underlying4
 a4:=Tryz.isAgg4
 z4:=Tryz.sizeOf4
 v4:=Tryz.zeroValue4
 t9:=Tryz.underlying9
 a9:=Tryz.isAgg9
 z9:=Tryz.sizeOf9
 v9:=Tryz.zeroValue9}
open Go.RowKit Go.Sort Go.Lib in
theorem Tryz.internal_strconv_small (i:Nat) (h:i<100) (w:World):
  Calls Tryz.prog 214 #[.int .i64 i] w fun e w'=>e=.returned (.string ⟨(Lib.decDigits i).toArray⟩)∧w'=w:=Any.internal_strconv_small Tryz.Mo i h w
def Tryz.zz:Go.Shelf.Ren:=⟨fun|284=>215|129=>209|317=>241|318=>242|n=>n,fun|53=>256|3=>3|212=>282|0=>0|4=>4|46=>101|5=>5|9=>9|n=>n,fun|17=>0|n=>n⟩
theorem Tryz.JU:Go.Proofs.LaysM.n284 Tryz.prog Tryz.zz:= {
 mixed:=by kernel_rfl
 f129:=Tryz.func209.trans (congrArg some (by kernel_rfl))
 f284:=Tryz.func215.trans (congrArg some (by kernel_rfl))
 f317:=Tryz.func241.trans (congrArg some (by kernel_rfl))
 f318:=Tryz.func242.trans (congrArg some (by kernel_rfl))
 t0:=Tryz.underlying0
 a0:=Tryz.isAgg0
 z0:=Tryz.sizeOf0
 v0:=Tryz.zeroValue0
 t3:=Tryz.underlying3
 a3:=Tryz.isAgg3
 z3:=Tryz.sizeOf3
 v3:=Tryz.zeroValue3
 t4:=Tryz.underlying4
 a4:=Tryz.isAgg4
 z4:=Tryz.sizeOf4
 v4:=Tryz.zeroValue4
 t5:=Tryz.underlying5
 a5:=Tryz.isAgg5
 z5:=Tryz.sizeOf5
 v5:=Tryz.zeroValue5
 t9:=Tryz.underlying9
 a9:=Tryz.isAgg9
 z9:=Tryz.sizeOf9
 v9:=Tryz.zeroValue9
 t46:=Tryz.underlying101
 a46:=Tryz.isAgg101
 z46:=Tryz.sizeOf101
 v46:=Tryz.zeroValue101
 t53:=Tryz.underlying256
 a53:=Tryz.isAgg256
 z53:=Tryz.sizeOf256
 v53:=Tryz.zeroValue256
 t212:=Tryz.underlying282
 a212:=Tryz.isAgg282
 z212:=Tryz.sizeOf282
 v212:=Tryz.zeroValue282
 g17:=by kernel_rfl
 i0:=by kernel_rfl
 i3:=by kernel_rfl
 i4:=by kernel_rfl
 i5:=by kernel_rfl
 i9:=by kernel_rfl
 i46:=by kernel_rfl
 i53:=by kernel_rfl
 i212:=by kernel_rfl
 m17:=by kernel_rfl}
open Go.RowKit Go.Sort Go.Lib in
theorem Tryz.internal_strconv_numDigits (u:Nat) (h1:1≤u) (h2:u<18446744073709551616) (w:World) (QX:Lib.TabIs Tryz.prog w "internal/strconv.uint64pow10" .u64 Lib.pow10Tab):
  Calls Tryz.prog 215 #[.int .u64 u] w fun e w'=>e=.returned (.int .i64 (Lib.nDigits u))∧w'=w:=Any.internal_strconv_numDigits Tryz.JU u h1 h2 w QX
def Tryz.B1:Go.Shelf.Ren:=⟨fun|285=>216|n=>n,fun|37=>43|53=>256|3=>3|4=>4|51=>254|9=>9|5=>5|0=>0|n=>n,fun|n=>n⟩
theorem Tryz.Mp:Go.Proofs.Lays.n285 Tryz.prog Tryz.B1:= {
 mixed:=by kernel_rfl
 f285:=Tryz.func216.trans (congrArg some (by kernel_rfl))
 t0:=Tryz.underlying0
 a0:=Tryz.isAgg0
 z0:=Tryz.sizeOf0
 v0:=Tryz.zeroValue0
 t3:=Tryz.underlying3
 a3:=Tryz.isAgg3
 z3:=Tryz.sizeOf3
 v3:=Tryz.zeroValue3
 t4:=Tryz.underlying4
 a4:=Tryz.isAgg4
 z4:=Tryz.sizeOf4
 v4:=Tryz.zeroValue4
 t5:=Tryz.underlying5
 a5:=Tryz.isAgg5
 z5:=Tryz.sizeOf5
 v5:=Tryz.zeroValue5
 t9:=Tryz.underlying9
 a9:=Tryz.isAgg9
 z9:=Tryz.sizeOf9
 v9:=Tryz.zeroValue9
 t37:=Tryz.underlying43
 a37:=Tryz.isAgg43
 z37:=Tryz.sizeOf43
 v37:=Tryz.zeroValue43
 t51:=Tryz.underlying254
 a51:=Tryz.isAgg254
 z51:=Tryz.sizeOf254
 v51:=Tryz.zeroValue254
 t53:=Tryz.underlying256
 a53:=Tryz.isAgg256
 z53:=Tryz.sizeOf256
 v53:=Tryz.zeroValue256}
open Go.RowKit Go.Sort Go.Lib in
theorem Tryz.internal_strconv_formatBase10 (jP off cap:Nat) (u:Nat) (d:Array UInt8) (w:World) (hH:Holds (fun(b:UInt8)=>Value.int .u8 (b.toNat:Int)) w jP off d) (hu:u<10^d.size) (XW:u<18446744073709551616) (qo:d.size<4611686018427387904):
  Calls Tryz.prog 216 #[.slice (some ⟨jP,off,none⟩) d.size cap,.int .u64 u] w fun e w'=>
   e=.returned (.tuple #[])∧ ∃(n v':Nat) (dk:Array UInt8),w'=(putRow (fun(b:UInt8)=>Value.int .u8 (b.toNat:Int)) w jP off dk).drewN n∧FmtInv d.size u 0 v' dk:=Any.internal_strconv_formatBase10 Tryz.Mp jP off cap u d w hH hu XW qo
def Tryz.zE:Go.Shelf.Ren:=⟨fun|171=>85|243=>123|246=>169|283=>214|284=>215|285=>216|286=>217|129=>209|317=>241|318=>242|319=>243|320=>244|337=>258|338=>259|n=>n,fun|3=>3|9=>9|2=>2|4=>4|171=>260|0=>0|53=>256|37=>43|5=>5|173=>262|212=>282|51=>254|20=>20|213=>283|46=>101|232=>297|233=>298|n=>n,fun|17=>0|18=>1|19=>2|n=>n⟩
theorem Tryz.JV:Go.Proofs.LaysM.n171 Tryz.prog Tryz.zE:= {
 mixed:=by kernel_rfl
 f129:=Tryz.func209.trans (congrArg some (by kernel_rfl))
 f171:=Tryz.func85.trans (congrArg some (by kernel_rfl))
 f243:=Tryz.func123.trans (congrArg some (by kernel_rfl))
 f246:=Tryz.func169.trans (congrArg some (by kernel_rfl))
 f283:=Tryz.func214.trans (congrArg some (by kernel_rfl))
 f284:=Tryz.func215.trans (congrArg some (by kernel_rfl))
 f285:=Tryz.func216.trans (congrArg some (by kernel_rfl))
 f286:=Tryz.func217.trans (congrArg some (by kernel_rfl))
 f317:=Tryz.func241.trans (congrArg some (by kernel_rfl))
 f318:=Tryz.func242.trans (congrArg some (by kernel_rfl))
 f319:=Tryz.func243.trans (congrArg some (by kernel_rfl))
 f320:=Tryz.func244.trans (congrArg some (by kernel_rfl))
 f337:=Tryz.func258.trans (congrArg some (by kernel_rfl))
 f338:=Tryz.func259.trans (congrArg some (by kernel_rfl))
 t0:=Tryz.underlying0
 a0:=Tryz.isAgg0
 z0:=Tryz.sizeOf0
 v0:=Tryz.zeroValue0
 t2:=Tryz.underlying2
 a2:=Tryz.isAgg2
 z2:=Tryz.sizeOf2
 v2:=Tryz.zeroValue2
 t3:=Tryz.underlying3
 a3:=Tryz.isAgg3
 z3:=Tryz.sizeOf3
 v3:=Tryz.zeroValue3
 t4:=Tryz.underlying4
 a4:=Tryz.isAgg4
 z4:=Tryz.sizeOf4
 v4:=Tryz.zeroValue4
 t5:=Tryz.underlying5
 a5:=Tryz.isAgg5
 z5:=Tryz.sizeOf5
 v5:=Tryz.zeroValue5
 t9:=Tryz.underlying9
 a9:=Tryz.isAgg9
 z9:=Tryz.sizeOf9
 v9:=Tryz.zeroValue9
 t20:=Tryz.underlying20
 a20:=Tryz.isAgg20
 z20:=Tryz.sizeOf20
 v20:=Tryz.zeroValue20
 t37:=Tryz.underlying43
 a37:=Tryz.isAgg43
 z37:=Tryz.sizeOf43
 v37:=Tryz.zeroValue43
 t46:=Tryz.underlying101
 a46:=Tryz.isAgg101
 z46:=Tryz.sizeOf101
 v46:=Tryz.zeroValue101
 t51:=Tryz.underlying254
 a51:=Tryz.isAgg254
 z51:=Tryz.sizeOf254
 v51:=Tryz.zeroValue254
 t53:=Tryz.underlying256
 a53:=Tryz.isAgg256
 z53:=Tryz.sizeOf256
 v53:=Tryz.zeroValue256
 t171:=Tryz.underlying260
 a171:=Tryz.isAgg260
 z171:=Tryz.sizeOf260
 v171:=Tryz.zeroValue260
 t173:=Tryz.underlying262
 a173:=Tryz.isAgg262
 z173:=Tryz.sizeOf262
 v173:=Tryz.zeroValue262
 t212:=Tryz.underlying282
 a212:=Tryz.isAgg282
 z212:=Tryz.sizeOf282
 v212:=Tryz.zeroValue282
 t213:=Tryz.underlying283
 a213:=Tryz.isAgg283
 z213:=Tryz.sizeOf283
 t232:=Tryz.underlying297
 a232:=Tryz.isAgg297
 z232:=Tryz.sizeOf297
 v232:=Tryz.zeroValue297
 t233:=Tryz.underlying298
 a233:=Tryz.isAgg298
 z233:=Tryz.sizeOf298
 v233:=Tryz.zeroValue298
 g17:=by kernel_rfl
 g18:=by kernel_rfl
 g19:=by kernel_rfl
 i0:=by kernel_rfl
 i2:=by kernel_rfl
 i3:=by kernel_rfl
 i4:=by kernel_rfl
 i5:=by kernel_rfl
 i9:=by kernel_rfl
 i20:=by kernel_rfl
 i37:=by kernel_rfl
 i46:=by kernel_rfl
 i51:=by kernel_rfl
 i53:=by kernel_rfl
 i171:=by kernel_rfl
 i173:=by kernel_rfl
 i212:=by kernel_rfl
 i232:=by kernel_rfl
 i233:=by kernel_rfl
 m17:=by kernel_rfl
 m18:=by kernel_rfl
 m19:=by kernel_rfl}
open Go.RowKit Go.Sort Go.Lib in
theorem Tryz.strconv_Itoa (n:Int) (h0: -9223372036854775808≤n) (h1:n≤9223372036854775807) (w:World) (QX:Lib.TabIs Tryz.prog w "internal/strconv.uint64pow10" .u64 Lib.pow10Tab):
  Calls Tryz.prog 85 #[.int .i64 n] w fun e w'=>e=.returned (.string ⟨(Lib.itoa n).toArray⟩)∧ ∃k os,w'=grow (w.drewN k) os:=Any.strconv_Itoa Tryz.JV n h0 h1 w QX
end Go.Proofs

namespace Go.Proofs.YtgdbfideeeegmaaGreatDoor
open Go.Lx Go.RowKit _root_.Go.Proofs.Tryz
theorem Q2 (w:World) (i:Nat) (h:i<100):bs Tryz.prog 214 [vI (i:Int)] w fun v N=>v=str (Lib.decDigits i)∧N=[]:=fun w1 M hI=>
 (Go.Proofs.Tryz.internal_strconv_small i h w1).mono (by rintro e w' ⟨rfl,rfl⟩;exact⟨_,[],F,hI,F,F⟩)
theorem ndF (w:World) [t:cG Tryz.prog w] (n:Nat) (h1:1≤n) (hn:n<1000000000000):bs Tryz.prog 215 [.int .u64 (n:Int)] w fun v N=>v=vI (Lib.nDigits n:Int)∧N=[]:=fun w1 M hI=>
 (Go.Proofs.Tryz.internal_strconv_numDigits n h1 (by omega) w1 (cG.is (hI.tab (P:=Tryz.prog)))).mono (by rintro e w' ⟨rfl,rfl⟩;exact⟨_,[],F,hI,F,F⟩)
theorem JX (base:World) [cG Tryz.prog base] (b:Option Addr) (c c' m n:Nat) (l:List UInt8) (hl:l.length=m) (hn:n<1000000000000) (R9:100≤n) (hm:m≤1000000):
  bw Tryz.prog base 231 [.slice b m c,.int .u64 (n:Int),vI 10] [ak b c 5 1 (cd l)] (fun v O'=> ∃b' c',v=.slice b' (m+(Lib.decDigits n).length) c'∧ ∃k cs,O'=[da k (.cells cs 260 (0,0)),ak b' c' 5 1 (cd (l++Lib.decDigits n))]):=by
 have h20:Lib.nDigits n≤20:=by have:=Lib.numDigits_eq n (by omega) (by omega);split at this<;>omega
 have VF:1≤Lib.nDigits n:=by rw[Lib.nDigits_big (by omega)];omega
 refine av func231 F ntmps231 F ?_
 refine ai (TO.qa F (ae (ax (ai (ah F (ad (bo F F) (ae ?_)))))))
 refine bg F ?_
 refine ax (ai (ah F (ad (bI F F) (ae (aL (congrArg Value.bool (decide_eq_false (show¬(n:Int)<100 by omega))) (aq (ai (aj F (aR Qp F (fun bA=>?_))))))))))
 refine ae (ai (ah F (aj F (aI Qz (aE (fun w1 hI=>by haveI:=hI.tab (P:=Tryz.prog);exact ndF w1 n (by omega) hn)) F ?_))))
 rintro v O' ⟨N,rfl,rfl,rfl⟩
 refine TO.qa F (ae (ai (ah F (ad (Ao underlying260 cP F F (by omega) VF) (ah F ?_)))))
 have hk:=(KA (base:=base) (b:=bA) (T:=260) (n:=n) (fun j hj=>Lib.zeros24_at j hj) (by omega) hn Go.Proofs.Tryz.internal_strconv_formatBase10).under (O:=[da bA (.cells Lib.zeros24 260 (0,0)),ak b c 5 1 (cd l)]) (B:=[ak b c 5 1 (cd l)]) (a_ (List.Sublist.refl _))
 refine aj F (aI QA hk F ?_)
 clear hk
 rintro v O' ⟨O1,rfl,rfl,cs,rfl,uc⟩
 refine ae (ai (ah F (ah F (ad (Ao underlying260 cP F F (by omega) VF) (aj F (Fw (new:=cd (Lib.decDigits n)) 0 1 underlying43 underlying43 cP F F F F (by simp[cd,hl]) (by simp[cd,Lib.decDigits_length]) F uc (u7 _) (by omega) (by decide) (by decide) (fun b2 c2=>?_)))))))
 refine TO.qa F (ae (az ?_))
 refine aG (.slice b2 (m+Lib.nDigits n) c2) Tryz.results231 F ?_
 refine⟨b2,c2,by rw[Lib.decDigits_length],bA,cs,?_⟩
 rw[show cd (l++Lib.decDigits n)=cd l++cd (Lib.decDigits n)from List.map_append];rfl
theorem A4 (base:World) (b:Option Addr) (c c' m n:Nat) (l:List UInt8) (hl:l.length=m) (hn:n<100) (hm:m≤1000000):
  bw Tryz.prog base 231 [.slice b m c,.int .u64 (n:Int),vI 10] [ak b c 5 1 (cd l)] (fun v O'=> ∃b' c',v=.slice b' (m+(Lib.decDigits n).length) c'∧O'=[ak b' c' 5 1 (cd (l++Lib.decDigits n))]):=by
 refine av func231 F ntmps231 F ?_
 refine ai (TO.qa F (ae (ax (ai (ah F (ad (bo F F) (ae ?_)))))))
 refine bg F ?_
 refine ax (ai (ah F (ad (bI F F) (ae ?_))))
 refine bg (congrArg Value.bool (decide_eq_true (show(n:Int)<100 by omega))) ?_
 refine ai (ah F (ah F (ad (ef underlying256 underlying3 F (show IntKind.i64.wrap (n:Int)=(n:Int)from eZ (by omega))) ?_)))
 have lN:=fun(w1:World) (hI:Inv base [ak b c 5 1 (cd l)] w1)=>Q2 w1 n hn
 refine aj F (aI Qy (aE lN) F ?_)
 clear lN
 rintro v O' ⟨N,rfl,rfl,rfl⟩
 refine aj F (xD (s:=Lib.decDigits n) 0 underlying43 underlying9 cP F F F F (by simp[hl]) F (by have:=rE 1 n (by omega);omega) (by decide) (by decide) (fun b2 c2=>?_))
 refine TO.qa F (ae (az ?_))
 refine aG (.slice b2 (m+(Lib.decDigits n).length) c2) Tryz.results231 F ?_
 exact⟨b2,c2,F,by rw[show cd (l++Lib.decDigits n)=cd l++cd (Lib.decDigits n)from List.map_append];rfl⟩
theorem JY (base:World) [cG Tryz.prog base] (b:Option Addr) (c c' m n:Nat) (l:List UInt8) (hl:l.length=m) (hn:n<1000000000000) (hm:m≤1000000):
  bw Tryz.prog base 231 [.slice b m c,.int .u64 (n:Int),vI 10] [ak b c 5 1 (cd l)] (fun v O'=> ∃b' c',v=.slice b' (m+(Lib.decDigits n).length) c'∧O'=[ak b' c' 5 1 (cd (l++Lib.decDigits n))]):=by
 by_cases h:n<100
 ·exact A4 base b c c' m n l hl h hm
 ·exact(JX base b c c' m n l hl hn (by omega) hm).drop fun v O' ⟨b',c',h1,k,cs,h2⟩=>⟨_,h2▸a_ (List.sublist_cons_self _ _),b',c',h1,F⟩
theorem Mq (base:World) [cG Tryz.prog base] (b:Option Addr) (c c' m n:Nat) (l:List UInt8) (hl:l.length=m) (hn:n<1000000000000) (hm:m≤1000000):
  bw Tryz.prog base 210 [.slice b m c,vI (n:Int),vI 10] [ak b c 5 1 (cd l)] (fun v O'=> ∃b' c',v=.slice b' (m+(Lib.decDigits n).length) c'∧O'=[ak b' c' 5 1 (cd (l++Lib.decDigits n))]):=by
 refine av func210 F ntmps210 F ?_
 refine ai (TO.qa F (ae (ai (ah F (ad (ef underlying2 underlying256 F (show IntKind.u64.wrap (n:Int)=(n:Int) by unfold IntKind.wrap;simp[IntKind.bits,IntKind.signed];omega)) (TO.qa F (ae (ax (ai (ah F (ad (bI F F) (ae (aL (congrArg Value.bool (decide_eq_false (show¬(n:Int)<0 by omega))) ?_)))))))))))))
 refine aq (ai (ah F (ah F (ah F ?_))))
 have lJ:=JY base b c c' m n l hl hn hm
 refine aj F (aI HY lJ F ?_)
 clear lJ
 rintro v O' ⟨b2,c2,rfl,rfl⟩
 refine TO.qa F (ae (az ?_))
 refine aG (.slice b2 (m+(Lib.decDigits n).length) c2) Tryz.results210 F ?_
 exact⟨b2,c2,F,F⟩
theorem Pc (base:World) [cG Tryz.prog base] (b:Option Addr) (c c' m n:Nat) (l:List UInt8) (hl:l.length=m) (hn:n<1000000000000) (hm:m≤1000000):
  bw Tryz.prog base 160 [.slice b m c,vI (n:Int),vI 10] [ak b c 5 1 (cd l)] (fun v O'=> ∃b' c',v=.slice b' (m+(Lib.decDigits n).length) c'∧O'=[ak b' c' 5 1 (cd (l++Lib.decDigits n))]):=by
 refine av func160 F ntmps160 F ?_
 refine ai (TO.qa F (ae (ai (ah F (ah F (ah F ?_))))))
 have lK:=Mq base b c c' m n l hl hn hm
 refine aj F (aI HZ lK F ?_)
 clear lK
 rintro v O' ⟨b2,c2,rfl,rfl⟩
 refine TO.qa F (ae (az ?_))
 refine aG (.slice b2 (m+(Lib.decDigits n).length) c2) Tryz.results160 F ?_
 exact⟨b2,c2,F,F⟩
theorem JT (w:World) [cG Tryz.prog w] (n:Nat) (hn:n<1000000000000):bs Tryz.prog 85 [vI (n:Int)] w fun v N=>v=str (Lib.decDigits n)∧N=[]:=fun w1 M hI=>
 (Go.Proofs.Tryz.strconv_Itoa n (by omega) (by omega) w1 (cG.is (hI.tab (P:=Tryz.prog)))).mono (by rintro e w' ⟨rfl,k,os,rfl⟩;exact⟨_,[],F,hI.grow k os,by rw[Lib.itoa_nonneg];rfl,F⟩)
theorem dp {w w1:World} {O:List Lx.Item} [cG Tryz.prog w] (h:Inv w O w1):cG Tryz.prog w1:=Inv.tab (P:=Tryz.prog) h
theorem aW {w:World} {O:List Lx.Item} {f:FuncId} {args:List Value} {R:Value→List Lx.Item→Prop} [cG Tryz.prog w] (h: ∀(w1:World) [cG Tryz.prog w1],bs Tryz.prog f args w1 R):bw Tryz.prog w f args O (fun v O2=> ∃N,O2=N++O∧R v N):=aE fun w1 hI=>haveI:=dp hI;h w1
abbrev uT2:= @underlying2
abbrev dh:= @underlying3
abbrev oe:= @underlying4
abbrev eC:= @underlying5
abbrev rO:= @underlying9
abbrev dB:= @underlying22
abbrev dF:= @underlying23
abbrev cy:= @underlying25
abbrev oR:= @underlying27
abbrev cp:= @underlying32
abbrev lM:= @underlying43
abbrev E6:= @underlying55
abbrev bT:= @underlying56
abbrev dY:= @underlying63
abbrev sL:= @underlying67
abbrev eL:= @underlying69
abbrev bK:= @underlying72
abbrev vy:= @underlying73
abbrev ky:= @underlying75
abbrev Dc:= @underlying79
abbrev kR:= @underlying81
abbrev Bw:= @underlying96
abbrev uq:= @underlying97
abbrev MY:= @underlying101
abbrev eF:= @underlying112
abbrev gy:= @underlying114
abbrev gq:= @underlying118
abbrev mz:= @underlying120
abbrev iC:= @underlying122
abbrev jG:= @underlying129
abbrev IV:= @underlying140
abbrev eN:= @underlying149
abbrev rH:= @underlying153
abbrev tD:= @underlying159
abbrev fV:= @underlying160
abbrev A6:= @underlying163
abbrev Br:= @underlying166
abbrev il:= @underlying167
abbrev jR:= @underlying169
abbrev iY:= @underlying173
abbrev UZ:= @underlying180
abbrev jq:= @underlying208
abbrev Ns:= @underlying209
abbrev tA:= @underlying244
abbrev Ts:= @underlying256
end Go.Proofs.YtgdbfideeeegmaaGreatDoor

