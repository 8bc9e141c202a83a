/- Types, and how data lies in cells. Written by a program of mine (wip/tool). -/
import Derived.Test.YtipdkfmhfakbnaaGreatDoorProg
import Derived.Test.YtipdkfmhfakbnaaGreatDoorRows
import Derived.Test.YtipdkfmhfakbnaaGreatDoorAd
set_option linter.unusedVariables false
set_option linter.unusedSimpArgs false
set_option linter.unusedSectionVars false
set_option maxRecDepth 100000
set_option maxHeartbeats 4000000
namespace Go.Proofs.YtipdkfmhfakbnaaGreatDoor.TB
open Go Go.RowKit Go.X Go.Q Go.D
theorem mixed:Tryz.prog.follows .mixedOrders=true:=by kernel_rfl
theorem ti32:TI Tryz.prog 32 2 32 (Value.agg #[(Value.bool false),(Value.slice none 0 0)]):=TI.mk (by kernel_rfl)
theorem ti3:TI Tryz.prog 3 1 8 (Value.int .i64 0):=TI.mk (by kernel_rfl)
theorem ti51:TI Tryz.prog 51 1 24 (Value.slice none 0 0):=TI.mk (by kernel_rfl)
theorem ti30:TI Tryz.prog 30 1 24 (Value.slice none 0 0):=TI.mk (by kernel_rfl)
theorem ti126:TI Tryz.prog 126 2 32 (Value.agg #[(Value.int .i64 0),(Value.slice none 0 0)]):=TI.mk (by kernel_rfl)
theorem ti102:TI Tryz.prog 102 1 24 (Value.slice none 0 0):=TI.mk (by kernel_rfl)
theorem ti84:TI Tryz.prog 84 3 56 (Value.agg #[(Value.slice none 0 0),(Value.bool false),(Value.slice none 0 0)]):=TI.mk (by kernel_rfl)
theorem ti72:TI Tryz.prog 72 1 24 (Value.slice none 0 0):=TI.mk (by kernel_rfl)
theorem ti2:TI Tryz.prog 2 1 8 (Value.int .i64 0):=TI.mk (by kernel_rfl)
theorem ti88:TI Tryz.prog 88 1 24 (Value.slice none 0 0):=TI.mk (by kernel_rfl)
theorem ti22:TI Tryz.prog 22 1 24 (Value.slice none 0 0):=TI.mk (by kernel_rfl)
theorem ti4:TI Tryz.prog 4 1 1 (Value.bool false):=TI.mk (by kernel_rfl)
theorem ti105:TI Tryz.prog 105 8 176 (Value.agg #[(Value.int .i64 0),(Value.slice none 0 0),(Value.slice none 0 0),(Value.slice none 0 0),(Value.slice none 0 0),(Value.slice none 0 0),(Value.slice none 0 0),(Value.slice none 0 0)]):=TI.mk (by kernel_rfl)
theorem ti42:TI Tryz.prog 42 3 40 (Value.agg #[(Value.int .i64 0),(Value.slice none 0 0),(Value.bool false)]):=TI.mk (by kernel_rfl)
theorem ti86:TI Tryz.prog 86 1 4 (Value.int .u32 0):=TI.mk (by kernel_rfl)
theorem ti75:TI Tryz.prog 75 8 144 (Value.agg #[(Value.int .i64 0),(Value.slice none 0 0),(Value.slice none 0 0),(Value.slice none 0 0),(Value.bool false),(Value.slice none 0 0),(Value.slice none 0 0),(Value.int .i64 0)]):=TI.mk (by kernel_rfl)
theorem ti38:TI Tryz.prog 38 1 24 (Value.slice none 0 0):=TI.mk (by kernel_rfl)
theorem ti87:TI Tryz.prog 87 1 8 (Value.int .u64 0):=TI.mk (by kernel_rfl)
theorem ti40:TI Tryz.prog 40 2 32 (Value.agg #[(Value.int .i64 0),(Value.slice none 0 0)]):=TI.mk (by kernel_rfl)
theorem ti55:TI Tryz.prog 55 1 24 (Value.slice none 0 0):=TI.mk (by kernel_rfl)
theorem ti66:TI Tryz.prog 66 5 104 (Value.agg #[(Value.slice none 0 0),(Value.slice none 0 0),(Value.bool false),(Value.slice none 0 0),(Value.slice none 0 0)]):=TI.mk (by kernel_rfl)
theorem ti71:TI Tryz.prog 71 2 16 (Value.agg #[(Value.int .i64 0),(Value.int .i64 0)]):=TI.mk (by kernel_rfl)
theorem ti123:TI Tryz.prog 123 3 40 (Value.agg #[(Value.int .i64 0),(Value.bool false),(Value.slice none 0 0)]):=TI.mk (by kernel_rfl)
theorem ti63:TI Tryz.prog 63 1 24 (Value.slice none 0 0):=TI.mk (by kernel_rfl)
theorem ti137:TI Tryz.prog 137 1 24 (Value.slice none 0 0):=TI.mk (by kernel_rfl)
theorem ti178:TI Tryz.prog 178 6 96 (Value.agg #[(Value.int .i64 0),(Value.slice none 0 0),(Value.bool false),(Value.slice none 0 0),(Value.bool false),(Value.slice none 0 0)]):=TI.mk (by kernel_rfl)
theorem Ls:TI Tryz.prog 103 1 24 (Value.slice none 0 0):=TI.mk (by kernel_rfl)
theorem ti47:TI Tryz.prog 47 1 24 (Value.slice none 0 0):=TI.mk (by kernel_rfl)
theorem ti64:TI Tryz.prog 64 1 24 (Value.slice none 0 0):=TI.mk (by kernel_rfl)
theorem wc:TI Tryz.prog 170 3 40 (Value.agg #[(Value.int .i64 0),(Value.slice none 0 0),(Value.bool false)]):=TI.mk (by kernel_rfl)
theorem ti158:TI Tryz.prog 158 1 24 (Value.slice none 0 0):=TI.mk (by kernel_rfl)
theorem ti139:TI Tryz.prog 139 3 56 (Value.agg #[(Value.slice none 0 0),(Value.bool false),(Value.slice none 0 0)]):=TI.mk (by kernel_rfl)
theorem ti9:TI Tryz.prog 9 1 16 (Value.string ⟨#[]⟩):=TI.mk (by kernel_rfl)
theorem ti211:TI Tryz.prog 211 1 24 (Value.slice none 0 0):=TI.mk (by kernel_rfl)
theorem ti5:TI Tryz.prog 5 1 1 (Value.int .u8 0):=TI.mk (by kernel_rfl)
theorem ti112:TI Tryz.prog 112 1 8 (Value.int .u64 0):=TI.mk (by kernel_rfl)
theorem ti124:TI Tryz.prog 124 1 8 (Value.map none):=TI.mk (by kernel_rfl)
theorem en146:Go.X.Enters Tryz.prog 146:=⟨Tryz.f146,Tryz.func146,by kernel_rfl,by kernel_rfl⟩
theorem en115:Go.X.Enters Tryz.prog 115:=⟨Tryz.f115,Tryz.func115,by kernel_rfl,by kernel_rfl⟩
theorem en116:Go.X.Enters Tryz.prog 116:=⟨Tryz.f116,Tryz.func116,by kernel_rfl,by kernel_rfl⟩
theorem en110:Go.X.Enters Tryz.prog 110:=⟨Tryz.f110,Tryz.func110,by kernel_rfl,by kernel_rfl⟩
theorem en76:Go.X.Enters Tryz.prog 76:=⟨Tryz.f76,Tryz.func76,by kernel_rfl,by kernel_rfl⟩
theorem en82:Go.X.Enters Tryz.prog 82:=⟨Tryz.f82,Tryz.func82,by kernel_rfl,by kernel_rfl⟩
theorem en80:Go.X.Enters Tryz.prog 80:=⟨Tryz.f80,Tryz.func80,by kernel_rfl,by kernel_rfl⟩
theorem en81:Go.X.Enters Tryz.prog 81:=⟨Tryz.f81,Tryz.func81,by kernel_rfl,by kernel_rfl⟩
theorem en86:Go.X.Enters Tryz.prog 86:=⟨Tryz.f86,Tryz.func86,by kernel_rfl,by kernel_rfl⟩
theorem en111:Go.X.Enters Tryz.prog 111:=⟨Tryz.f111,Tryz.func111,by kernel_rfl,by kernel_rfl⟩
theorem en113:Go.X.Enters Tryz.prog 113:=⟨Tryz.f113,Tryz.func113,by kernel_rfl,by kernel_rfl⟩
theorem en83:Go.X.Enters Tryz.prog 83:=⟨Tryz.f83,Tryz.func83,by kernel_rfl,by kernel_rfl⟩
theorem en51:Go.X.Enters Tryz.prog 51:=⟨Tryz.f51,Tryz.func51,by kernel_rfl,by kernel_rfl⟩
theorem en49:Go.X.Enters Tryz.prog 49:=⟨Tryz.f49,Tryz.func49,by kernel_rfl,by kernel_rfl⟩
theorem en129:Go.X.Enters Tryz.prog 129:=⟨Tryz.f129,Tryz.func129,by kernel_rfl,by kernel_rfl⟩
theorem en84:Go.X.Enters Tryz.prog 84:=⟨Tryz.f84,Tryz.func84,by kernel_rfl,by kernel_rfl⟩
theorem en117:Go.X.Enters Tryz.prog 117:=⟨Tryz.f117,Tryz.func117,by kernel_rfl,by kernel_rfl⟩
theorem en118:Go.X.Enters Tryz.prog 118:=⟨Tryz.f118,Tryz.func118,by kernel_rfl,by kernel_rfl⟩
theorem en57:Go.X.Enters Tryz.prog 57:=⟨Tryz.f57,Tryz.func57,by kernel_rfl,by kernel_rfl⟩
theorem en98:Go.X.Enters Tryz.prog 98:=⟨Tryz.f98,Tryz.func98,by kernel_rfl,by kernel_rfl⟩
theorem en87:Go.X.Enters Tryz.prog 87:=⟨Tryz.f87,Tryz.func87,by kernel_rfl,by kernel_rfl⟩
theorem en69:Go.X.Enters Tryz.prog 69:=⟨Tryz.f69,Tryz.func69,by kernel_rfl,by kernel_rfl⟩
theorem en119:Go.X.Enters Tryz.prog 119:=⟨Tryz.f119,Tryz.func119,by kernel_rfl,by kernel_rfl⟩
theorem en88:Go.X.Enters Tryz.prog 88:=⟨Tryz.f88,Tryz.func88,by kernel_rfl,by kernel_rfl⟩
theorem en97:Go.X.Enters Tryz.prog 97:=⟨Tryz.f97,Tryz.func97,by kernel_rfl,by kernel_rfl⟩
theorem en18:Go.X.Enters Tryz.prog 18:=⟨Tryz.f18,Tryz.func18,by kernel_rfl,by kernel_rfl⟩
theorem en68:Go.X.Enters Tryz.prog 68:=⟨Tryz.f68,Tryz.func68,by kernel_rfl,by kernel_rfl⟩
theorem en17:Go.X.Enters Tryz.prog 17:=⟨Tryz.f17,Tryz.func17,by kernel_rfl,by kernel_rfl⟩
theorem en147:Go.X.Enters Tryz.prog 147:=⟨Tryz.f147,Tryz.func147,by kernel_rfl,by kernel_rfl⟩
theorem en112:Go.X.Enters Tryz.prog 112:=⟨Tryz.f112,Tryz.func112,by kernel_rfl,by kernel_rfl⟩
theorem en114:Go.X.Enters Tryz.prog 114:=⟨Tryz.f114,Tryz.func114,by kernel_rfl,by kernel_rfl⟩
theorem en79:Go.X.Enters Tryz.prog 79:=⟨Tryz.f79,Tryz.func79,by kernel_rfl,by kernel_rfl⟩
theorem en42:Go.X.Enters Tryz.prog 42:=⟨Tryz.f42,Tryz.func42,by kernel_rfl,by kernel_rfl⟩
theorem en78:Go.X.Enters Tryz.prog 78:=⟨Tryz.f78,Tryz.func78,by kernel_rfl,by kernel_rfl⟩
theorem en56:Go.X.Enters Tryz.prog 56:=⟨Tryz.f56,Tryz.func56,by kernel_rfl,by kernel_rfl⟩
theorem en46:Go.X.Enters Tryz.prog 46:=⟨Tryz.f46,Tryz.func46,by kernel_rfl,by kernel_rfl⟩
theorem en77:Go.X.Enters Tryz.prog 77:=⟨Tryz.f77,Tryz.func77,by kernel_rfl,by kernel_rfl⟩
theorem en45:Go.X.Enters Tryz.prog 45:=⟨Tryz.f45,Tryz.func45,by kernel_rfl,by kernel_rfl⟩
theorem en43:Go.X.Enters Tryz.prog 43:=⟨Tryz.f43,Tryz.func43,by kernel_rfl,by kernel_rfl⟩
theorem en55:Go.X.Enters Tryz.prog 55:=⟨Tryz.f55,Tryz.func55,by kernel_rfl,by kernel_rfl⟩
theorem en44:Go.X.Enters Tryz.prog 44:=⟨Tryz.f44,Tryz.func44,by kernel_rfl,by kernel_rfl⟩
theorem en171:Go.X.Enters Tryz.prog 171:=⟨Tryz.f171,Tryz.func171,by kernel_rfl,by kernel_rfl⟩
theorem en121:Go.X.Enters Tryz.prog 121:=⟨Tryz.f121,Tryz.func121,by kernel_rfl,by kernel_rfl⟩
theorem en72:Go.X.Enters Tryz.prog 72:=⟨Tryz.f72,Tryz.func72,by kernel_rfl,by kernel_rfl⟩
theorem en104:Go.X.Enters Tryz.prog 104:=⟨Tryz.f104,Tryz.func104,by kernel_rfl,by kernel_rfl⟩
theorem en73:Go.X.Enters Tryz.prog 73:=⟨Tryz.f73,Tryz.func73,by kernel_rfl,by kernel_rfl⟩
theorem en39:Go.X.Enters Tryz.prog 39:=⟨Tryz.f39,Tryz.func39,by kernel_rfl,by kernel_rfl⟩
theorem en89:Go.X.Enters Tryz.prog 89:=⟨Tryz.f89,Tryz.func89,by kernel_rfl,by kernel_rfl⟩
theorem en47:Go.X.Enters Tryz.prog 47:=⟨Tryz.f47,Tryz.func47,by kernel_rfl,by kernel_rfl⟩
theorem en128:Go.X.Enters Tryz.prog 128:=⟨Tryz.f128,Tryz.func128,by kernel_rfl,by kernel_rfl⟩
theorem en52:Go.X.Enters Tryz.prog 52:=⟨Tryz.f52,Tryz.func52,by kernel_rfl,by kernel_rfl⟩
theorem en102:Go.X.Enters Tryz.prog 102:=⟨Tryz.f102,Tryz.func102,by kernel_rfl,by kernel_rfl⟩
theorem en103:Go.X.Enters Tryz.prog 103:=⟨Tryz.f103,Tryz.func103,by kernel_rfl,by kernel_rfl⟩
theorem en71:Go.X.Enters Tryz.prog 71:=⟨Tryz.f71,Tryz.func71,by kernel_rfl,by kernel_rfl⟩
theorem en99:Go.X.Enters Tryz.prog 99:=⟨Tryz.f99,Tryz.func99,by kernel_rfl,by kernel_rfl⟩
theorem en100:Go.X.Enters Tryz.prog 100:=⟨Tryz.f100,Tryz.func100,by kernel_rfl,by kernel_rfl⟩
theorem en101:Go.X.Enters Tryz.prog 101:=⟨Tryz.f101,Tryz.func101,by kernel_rfl,by kernel_rfl⟩
theorem en70:Go.X.Enters Tryz.prog 70:=⟨Tryz.f70,Tryz.func70,by kernel_rfl,by kernel_rfl⟩
theorem en58:Go.X.Enters Tryz.prog 58:=⟨Tryz.f58,Tryz.func58,by kernel_rfl,by kernel_rfl⟩
theorem en28:Go.X.Enters Tryz.prog 28:=⟨Tryz.f28,Tryz.func28,by kernel_rfl,by kernel_rfl⟩
theorem en25:Go.X.Enters Tryz.prog 25:=⟨Tryz.f25,Tryz.func25,by kernel_rfl,by kernel_rfl⟩
theorem en11:Go.X.Enters Tryz.prog 11:=⟨Tryz.f11,Tryz.func11,by kernel_rfl,by kernel_rfl⟩
theorem en37:Go.X.Enters Tryz.prog 37:=⟨Tryz.f37,Tryz.func37,by kernel_rfl,by kernel_rfl⟩
theorem en23:Go.X.Enters Tryz.prog 23:=⟨Tryz.f23,Tryz.func23,by kernel_rfl,by kernel_rfl⟩
theorem en22:Go.X.Enters Tryz.prog 22:=⟨Tryz.f22,Tryz.func22,by kernel_rfl,by kernel_rfl⟩
theorem en90:Go.X.Enters Tryz.prog 90:=⟨Tryz.f90,Tryz.func90,by kernel_rfl,by kernel_rfl⟩
theorem en144:Go.X.Enters Tryz.prog 144:=⟨Tryz.f144,Tryz.func144,by kernel_rfl,by kernel_rfl⟩
theorem en165:Go.X.Enters Tryz.prog 165:=⟨Tryz.f165,Tryz.func165,by kernel_rfl,by kernel_rfl⟩
theorem en166:Go.X.Enters Tryz.prog 166:=⟨Tryz.f166,Tryz.func166,by kernel_rfl,by kernel_rfl⟩
theorem en164:Go.X.Enters Tryz.prog 164:=⟨Tryz.f164,Tryz.func164,by kernel_rfl,by kernel_rfl⟩
theorem en167:Go.X.Enters Tryz.prog 167:=⟨Tryz.f167,Tryz.func167,by kernel_rfl,by kernel_rfl⟩
theorem en160:Go.X.Enters Tryz.prog 160:=⟨Tryz.f160,Tryz.func160,by kernel_rfl,by kernel_rfl⟩
theorem en134:Go.X.Enters Tryz.prog 134:=⟨Tryz.f134,Tryz.func134,by kernel_rfl,by kernel_rfl⟩
theorem en126:Go.X.Enters Tryz.prog 126:=⟨Tryz.f126,Tryz.func126,by kernel_rfl,by kernel_rfl⟩
theorem en143:Go.X.Enters Tryz.prog 143:=⟨Tryz.f143,Tryz.func143,by kernel_rfl,by kernel_rfl⟩
theorem en168:Go.X.Enters Tryz.prog 168:=⟨Tryz.f168,Tryz.func168,by kernel_rfl,by kernel_rfl⟩
theorem en141:Go.X.Enters Tryz.prog 141:=⟨Tryz.f141,Tryz.func141,by kernel_rfl,by kernel_rfl⟩
theorem en148:Go.X.Enters Tryz.prog 148:=⟨Tryz.f148,Tryz.func148,by kernel_rfl,by kernel_rfl⟩
theorem en93:Go.X.Enters Tryz.prog 93:=⟨Tryz.f93,Tryz.func93,by kernel_rfl,by kernel_rfl⟩
theorem en92:Go.X.Enters Tryz.prog 92:=⟨Tryz.f92,Tryz.func92,by kernel_rfl,by kernel_rfl⟩
theorem en136:Go.X.Enters Tryz.prog 136:=⟨Tryz.f136,Tryz.func136,by kernel_rfl,by kernel_rfl⟩
theorem en161:Go.X.Enters Tryz.prog 161:=⟨Tryz.f161,Tryz.func161,by kernel_rfl,by kernel_rfl⟩
theorem en169:Go.X.Enters Tryz.prog 169:=⟨Tryz.f169,Tryz.func169,by kernel_rfl,by kernel_rfl⟩
theorem en48:Go.X.Enters Tryz.prog 48:=⟨Tryz.f48,Tryz.func48,by kernel_rfl,by kernel_rfl⟩
theorem Fg:Go.X.Enters Tryz.prog 127:=⟨Tryz.f127,Tryz.func127,by kernel_rfl,by kernel_rfl⟩
theorem ES:Go.X.Enters Tryz.prog 123:=⟨Tryz.f123,Tryz.func123,by kernel_rfl,by kernel_rfl⟩
theorem Mt:Go.X.Enters Tryz.prog 135:=⟨Tryz.f135,Tryz.func135,by kernel_rfl,by kernel_rfl⟩
theorem KP:Go.X.Enters Tryz.prog 145:=⟨Tryz.f145,Tryz.func145,by kernel_rfl,by kernel_rfl⟩
theorem D5:Go.X.Enters Tryz.prog 94:=⟨Tryz.f94,Tryz.func94,by kernel_rfl,by kernel_rfl⟩
theorem Hj:Go.X.Enters Tryz.prog 149:=⟨Tryz.f149,Tryz.func149,by kernel_rfl,by kernel_rfl⟩
theorem Mv:Go.X.Enters Tryz.prog 120:=⟨Tryz.f120,Tryz.func120,by kernel_rfl,by kernel_rfl⟩
theorem en96:Go.X.Enters Tryz.prog 96:=⟨Tryz.f96,Tryz.func96,by kernel_rfl,by kernel_rfl⟩
theorem en91:Go.X.Enters Tryz.prog 91:=⟨Tryz.f91,Tryz.func91,by kernel_rfl,by kernel_rfl⟩
theorem en63:Go.X.Enters Tryz.prog 63:=⟨Tryz.f63,Tryz.func63,by kernel_rfl,by kernel_rfl⟩
theorem en64:Go.X.Enters Tryz.prog 64:=⟨Tryz.f64,Tryz.func64,by kernel_rfl,by kernel_rfl⟩
theorem GQ:Go.X.Enters Tryz.prog 156:=⟨Tryz.f156,Tryz.func156,by kernel_rfl,by kernel_rfl⟩
theorem Iy:Go.X.Enters Tryz.prog 157:=⟨Tryz.f157,Tryz.func157,by kernel_rfl,by kernel_rfl⟩
theorem en124:Go.X.Enters Tryz.prog 124:=⟨Tryz.f124,Tryz.func124,by kernel_rfl,by kernel_rfl⟩
theorem en125:Go.X.Enters Tryz.prog 125:=⟨Tryz.f125,Tryz.func125,by kernel_rfl,by kernel_rfl⟩
theorem en95:Go.X.Enters Tryz.prog 95:=⟨Tryz.f95,Tryz.func95,by kernel_rfl,by kernel_rfl⟩
theorem en65:Go.X.Enters Tryz.prog 65:=⟨Tryz.f65,Tryz.func65,by kernel_rfl,by kernel_rfl⟩
theorem en66:Go.X.Enters Tryz.prog 66:=⟨Tryz.f66,Tryz.func66,by kernel_rfl,by kernel_rfl⟩
theorem KS:Go.X.Enters Tryz.prog 133:=⟨Tryz.f133,Tryz.func133,by kernel_rfl,by kernel_rfl⟩
theorem en130:Go.X.Enters Tryz.prog 130:=⟨Tryz.f130,Tryz.func130,by kernel_rfl,by kernel_rfl⟩
theorem en105:Go.X.Enters Tryz.prog 105:=⟨Tryz.f105,Tryz.func105,by kernel_rfl,by kernel_rfl⟩
theorem en107:Go.X.Enters Tryz.prog 107:=⟨Tryz.f107,Tryz.func107,by kernel_rfl,by kernel_rfl⟩
theorem en109:Go.X.Enters Tryz.prog 109:=⟨Tryz.f109,Tryz.func109,by kernel_rfl,by kernel_rfl⟩
theorem en159:Go.X.Enters Tryz.prog 159:=⟨Tryz.f159,Tryz.func159,by kernel_rfl,by kernel_rfl⟩
theorem en132:Go.X.Enters Tryz.prog 132:=⟨Tryz.f132,Tryz.func132,by kernel_rfl,by kernel_rfl⟩
theorem en74:Go.X.Enters Tryz.prog 74:=⟨Tryz.f74,Tryz.func74,by kernel_rfl,by kernel_rfl⟩
theorem en62:Go.X.Enters Tryz.prog 62:=⟨Tryz.f62,Tryz.func62,by kernel_rfl,by kernel_rfl⟩
theorem en140:Go.X.Enters Tryz.prog 140:=⟨Tryz.f140,Tryz.func140,by kernel_rfl,by kernel_rfl⟩
theorem en162:Go.X.Enters Tryz.prog 162:=⟨Tryz.f162,Tryz.func162,by kernel_rfl,by kernel_rfl⟩
theorem en163:Go.X.Enters Tryz.prog 163:=⟨Tryz.f163,Tryz.func163,by kernel_rfl,by kernel_rfl⟩
theorem en138:Go.X.Enters Tryz.prog 138:=⟨Tryz.f138,Tryz.func138,by kernel_rfl,by kernel_rfl⟩
theorem en137:Go.X.Enters Tryz.prog 137:=⟨Tryz.f137,Tryz.func137,by kernel_rfl,by kernel_rfl⟩
theorem en170:Go.X.Enters Tryz.prog 170:=⟨Tryz.f170,Tryz.func170,by kernel_rfl,by kernel_rfl⟩
theorem en142:Go.X.Enters Tryz.prog 142:=⟨Tryz.f142,Tryz.func142,by kernel_rfl,by kernel_rfl⟩
theorem en139:Go.X.Enters Tryz.prog 139:=⟨Tryz.f139,Tryz.func139,by kernel_rfl,by kernel_rfl⟩
theorem en108:Go.X.Enters Tryz.prog 108:=⟨Tryz.f108,Tryz.func108,by kernel_rfl,by kernel_rfl⟩
theorem en75:Go.X.Enters Tryz.prog 75:=⟨Tryz.f75,Tryz.func75,by kernel_rfl,by kernel_rfl⟩
theorem en40:Go.X.Enters Tryz.prog 40:=⟨Tryz.f40,Tryz.func40,by kernel_rfl,by kernel_rfl⟩
theorem en36:Go.X.Enters Tryz.prog 36:=⟨Tryz.f36,Tryz.func36,by kernel_rfl,by kernel_rfl⟩
theorem en41:Go.X.Enters Tryz.prog 41:=⟨Tryz.f41,Tryz.func41,by kernel_rfl,by kernel_rfl⟩
theorem en15:Go.X.Enters Tryz.prog 15:=⟨Tryz.f15,Tryz.func15,by kernel_rfl,by kernel_rfl⟩
theorem en35:Go.X.Enters Tryz.prog 35:=⟨Tryz.f35,Tryz.func35,by kernel_rfl,by kernel_rfl⟩
theorem en16:Go.X.Enters Tryz.prog 16:=⟨Tryz.f16,Tryz.func16,by kernel_rfl,by kernel_rfl⟩
theorem en12:Go.X.Enters Tryz.prog 12:=⟨Tryz.f12,Tryz.func12,by kernel_rfl,by kernel_rfl⟩
theorem en10:Go.X.Enters Tryz.prog 10:=⟨Tryz.f10,Tryz.func10,by kernel_rfl,by kernel_rfl⟩
theorem en6:Go.X.Enters Tryz.prog 6:=⟨Tryz.f6,Tryz.func6,by kernel_rfl,by kernel_rfl⟩
theorem J7:kU Tryz.prog 9 (fun x:List UInt8=>Value.string (s8 x)):=kU.str Tryz.underlying9
def tb:List (dF Tryz.prog):=[⟨32,_,_,_,_,Tryz.underlying32,ti32⟩,⟨3,_,_,_,_,Tryz.underlying3,ti3⟩,⟨51,_,_,_,_,Tryz.underlying51,ti51⟩,⟨30,_,_,_,_,Tryz.underlying30,ti30⟩,⟨126,_,_,_,_,Tryz.underlying126,ti126⟩,⟨102,_,_,_,_,Tryz.underlying102,ti102⟩,⟨84,_,_,_,_,Tryz.underlying84,ti84⟩,⟨72,_,_,_,_,Tryz.underlying72,ti72⟩,⟨2,_,_,_,_,Tryz.underlying2,ti2⟩,⟨88,_,_,_,_,Tryz.underlying88,ti88⟩,⟨22,_,_,_,_,Tryz.underlying22,ti22⟩,⟨4,_,_,_,_,Tryz.underlying4,ti4⟩,⟨105,_,_,_,_,Tryz.underlying105,ti105⟩,⟨42,_,_,_,_,Tryz.underlying42,ti42⟩,⟨86,_,_,_,_,Tryz.underlying86,ti86⟩,⟨75,_,_,_,_,Tryz.underlying75,ti75⟩,⟨38,_,_,_,_,Tryz.underlying38,ti38⟩,⟨87,_,_,_,_,Tryz.underlying87,ti87⟩,⟨40,_,_,_,_,Tryz.underlying40,ti40⟩,⟨55,_,_,_,_,Tryz.underlying55,ti55⟩,⟨66,_,_,_,_,Tryz.underlying66,ti66⟩,⟨71,_,_,_,_,Tryz.underlying71,ti71⟩,⟨123,_,_,_,_,Tryz.underlying123,ti123⟩,⟨63,_,_,_,_,Tryz.underlying63,ti63⟩,⟨137,_,_,_,_,Tryz.underlying137,ti137⟩,⟨178,_,_,_,_,Tryz.underlying178,ti178⟩,⟨103,_,_,_,_,Tryz.underlying103,Ls⟩,⟨47,_,_,_,_,Tryz.underlying47,ti47⟩,⟨64,_,_,_,_,Tryz.underlying64,ti64⟩,⟨170,_,_,_,_,Tryz.underlying170,wc⟩,⟨158,_,_,_,_,Tryz.underlying158,ti158⟩,⟨139,_,_,_,_,Tryz.underlying139,ti139⟩,⟨9,_,_,_,_,Tryz.underlying9,ti9⟩,⟨211,_,_,_,_,Tryz.underlying211,ti211⟩,⟨5,_,_,_,_,Tryz.underlying5,ti5⟩,⟨112,_,_,_,_,Tryz.underlying112,ti112⟩,⟨124,_,_,_,_,Tryz.underlying124,ti124⟩]
instance:aO aA:=⟨fun κ x=>[.v (Value.bool x.bG),.ro (aD .u32) κ x.aP],
 fun h=>by obtain⟨v0,h0,k0,-⟩:=Sq h;exact⟨_,_,h0,⟨rfl,rfl⟩,_,_,rfl,k0,rfl⟩,
 fun h=>by obtain⟨_,_,rfl,⟨rfl,_⟩,v0,_,rfl,k0,rfl⟩:=h;exact Oz ⟨v0,rfl,k0,trivial⟩⟩
instance:aO ct:=⟨fun κ x=>[.v (Value.int .i64 x.Linear.Const),.ro gA κ x.Linear.aT,.v (Value.bool x.e9)],
 fun h=>by obtain⟨v0,h0,k0,-⟩:=Ti h;exact⟨_,_,h0,⟨rfl,rfl⟩,_,_,rfl,k0,_,_,rfl,⟨rfl,rfl⟩,rfl⟩,
 fun h=>by obtain⟨_,_,rfl,⟨rfl,_⟩,v0,_,rfl,k0,_,_,rfl,⟨rfl,_⟩,rfl⟩:=h;exact N9 ⟨v0,rfl,k0,trivial⟩⟩
instance:aO nZ:=⟨fun κ x=>[.v (Value.int .i64 x.Const),.ro gA κ x.aT],
 fun h=>by obtain⟨v0,h0,k0,-⟩:=Tz h;exact⟨_,_,h0,⟨rfl,rfl⟩,_,_,rfl,k0,rfl⟩,
 fun h=>by obtain⟨_,_,rfl,⟨rfl,_⟩,v0,_,rfl,k0,rfl⟩:=h;exact Qt ⟨v0,rfl,k0,trivial⟩⟩
instance:aO gA:=⟨fun κ x=>[.v (Value.int .i64 x.Var),.v (Value.int .i64 x.N)],
 fun h=>by obtain⟨h0,-⟩:=Qf h;exact⟨_,_,h0,⟨rfl,rfl⟩,_,_,rfl,⟨rfl,rfl⟩,rfl⟩,
 fun h=>by obtain⟨_,_,rfl,⟨rfl,_⟩,_,_,rfl,⟨rfl,_⟩,rfl⟩:=h;exact Uh ⟨rfl,trivial⟩⟩
instance:aO aE:=⟨fun κ x=>[.ro aA κ x.aT,.v (Value.bool x.dA.bG),.ro (aD .u32) κ x.dA.aP],
 fun h=>by obtain⟨v0,v1,h0,k0,k1,-⟩:=Q8 h;exact⟨_,_,h0,k0,_,_,rfl,⟨rfl,rfl⟩,_,_,rfl,k1,rfl⟩,
 fun h=>by obtain⟨v0,_,rfl,k0,_,_,rfl,⟨rfl,_⟩,v1,_,rfl,k1,rfl⟩:=h;exact P6 ⟨v0,v1,rfl,k0,k1,trivial⟩⟩
instance:aO aJ:=⟨fun κ x=>[.ro ej κ x.Uses,.v (Value.bool x.gh.bG),.ro (aD .u32) κ x.gh.aP],
 fun h=>by obtain⟨v0,v1,h0,k0,k1,-⟩:=OQ h;exact⟨_,_,h0,k0,_,_,rfl,⟨rfl,rfl⟩,_,_,rfl,k1,rfl⟩,
 fun h=>by obtain⟨v0,_,rfl,k0,_,_,rfl,⟨rfl,_⟩,v1,_,rfl,k1,rfl⟩:=h;exact Oc ⟨v0,v1,rfl,k0,k1,trivial⟩⟩
instance:aO ej:=⟨fun κ x=>[.v (Value.int .i64 x.Index),.v (Value.bool x.N.bG),.ro (aD .u32) κ x.N.aP],
 fun h=>by obtain⟨v0,h0,k0,-⟩:=QJ h;exact⟨_,_,h0,⟨rfl,rfl⟩,_,_,rfl,⟨rfl,rfl⟩,_,_,rfl,k0,rfl⟩,
 fun h=>by obtain⟨_,_,rfl,⟨rfl,_⟩,_,_,rfl,⟨rfl,_⟩,v0,_,rfl,k0,rfl⟩:=h;exact P2 ⟨v0,rfl,k0,trivial⟩⟩
instance:aO jb:=⟨fun κ x=>[.ro aJ κ x.Steps,.ro aA κ x.Form,.v (Value.bool x.dA.bG),.ro (aD .u32) κ x.dA.aP,.ro jb κ x.mi],
 fun h=>by obtain⟨v0,v1,v2,v3,h0,k0,k1,k2,k3,-⟩:=O6 h;exact⟨_,_,h0,k0,_,_,rfl,k1,_,_,rfl,⟨rfl,rfl⟩,_,_,rfl,k2,_,_,rfl,k3,rfl⟩,
 fun h=>by obtain⟨v0,_,rfl,k0,v1,_,rfl,k1,_,_,rfl,⟨rfl,_⟩,v2,_,rfl,k2,v3,_,rfl,k3,rfl⟩:=h;exact S0 ⟨v0,v1,v2,v3,rfl,k0,k1,k2,k3,trivial⟩⟩
instance:aO aH:=⟨fun κ x=>[.v (Value.int .i64 x.pos),.ro aA κ x.g],
 fun h=>by obtain⟨v0,h0,k0,-⟩:=Pb h;exact⟨_,_,h0,⟨rfl,rfl⟩,_,_,rfl,k0,rfl⟩,
 fun h=>by obtain⟨_,_,rfl,⟨rfl,_⟩,v0,_,rfl,k0,rfl⟩:=h;exact PE ⟨v0,rfl,k0,trivial⟩⟩
instance:aO aM:=⟨fun κ x=>[.v (Value.int .i64 x.v),.ro (aD .i64) κ x.items,.v (Value.bool x.dD)],
 fun h=>by obtain⟨v0,h0,k0,-⟩:=TY h;exact⟨_,_,h0,⟨rfl,rfl⟩,_,_,rfl,k0,_,_,rfl,⟨rfl,rfl⟩,rfl⟩,
 fun h=>by obtain⟨_,_,rfl,⟨rfl,_⟩,v0,_,rfl,k0,_,_,rfl,⟨rfl,_⟩,rfl⟩:=h;exact Px ⟨v0,rfl,k0,trivial⟩⟩
instance:aO Dj:=⟨fun κ x=>[.v (Value.int .i64 x.n),.ro aE κ x.known,.ro aJ κ x.steps,.ro (aV aA) κ x.u,.ro (aD .i64) κ x.status,.ro aA κ x.value,.ro aH κ x.items,.ro aM κ x.stack],
 fun h=>by obtain⟨v0,v1,v2,v3,v4,v5,v6,h0,k0,k1,k2,k3,k4,k5,k6,-⟩:=Ps h;exact⟨_,_,h0,⟨rfl,rfl⟩,_,_,rfl,k0,_,_,rfl,k1,_,_,rfl,k2,_,_,rfl,k3,_,_,rfl,k4,_,_,rfl,k5,_,_,rfl,k6,rfl⟩,
 fun h=>by obtain⟨_,_,rfl,⟨rfl,_⟩,v0,_,rfl,k0,v1,_,rfl,k1,v2,_,rfl,k2,v3,_,rfl,k3,v4,_,rfl,k4,v5,_,rfl,k5,v6,_,rfl,k6,rfl⟩:=h;exact QB ⟨v0,v1,v2,v3,v4,v5,v6,rfl,k0,k1,k2,k3,k4,k5,k6,trivial⟩⟩
instance:aO fw:=⟨fun κ x=>[.v (Value.int .i64 x.kind),.ro aA κ x.x,.ro aJ κ x.proof.Steps,.ro aA κ x.proof.Form,.v (Value.bool x.proof.dA.bG),.ro (aD .u32) κ x.proof.dA.aP,.ro jb κ x.proof.mi,.v (Value.int .i64 x.v)],
 fun h=>by obtain⟨v0,v1,v2,v3,v4,h0,k0,k1,k2,k3,k4,-⟩:=OX h;exact⟨_,_,h0,⟨rfl,rfl⟩,_,_,rfl,k0,_,_,rfl,k1,_,_,rfl,k2,_,_,rfl,⟨rfl,rfl⟩,_,_,rfl,k3,_,_,rfl,k4,_,_,rfl,⟨rfl,rfl⟩,rfl⟩,
 fun h=>by obtain⟨_,_,rfl,⟨rfl,_⟩,v0,_,rfl,k0,v1,_,rfl,k1,v2,_,rfl,k2,_,_,rfl,⟨rfl,_⟩,v3,_,rfl,k3,v4,_,rfl,k4,_,_,rfl,⟨rfl,_⟩,rfl⟩:=h;exact QN ⟨v0,v1,v2,v3,v4,rfl,k0,k1,k2,k3,k4,trivial⟩⟩
instance:aO jB:=⟨fun κ x=>[.v (Value.int .i64 x.up.pos),.ro aA κ x.up.g,.v (Value.bool x.low.bG),.ro (aD .u32) κ x.low.aP,.v (Value.bool x.high.bG),.ro (aD .u32) κ x.high.aP],
 fun h=>by obtain⟨v0,v1,v2,h0,k0,k1,k2,-⟩:=QV h;exact⟨_,_,h0,⟨rfl,rfl⟩,_,_,rfl,k0,_,_,rfl,⟨rfl,rfl⟩,_,_,rfl,k1,_,_,rfl,⟨rfl,rfl⟩,_,_,rfl,k2,rfl⟩,
 fun h=>by obtain⟨_,_,rfl,⟨rfl,_⟩,v0,_,rfl,k0,_,_,rfl,⟨rfl,_⟩,v1,_,rfl,k1,_,_,rfl,⟨rfl,_⟩,v2,_,rfl,k2,rfl⟩:=h;exact OP ⟨v0,v1,v2,rfl,k0,k1,k2,trivial⟩⟩
end Go.Proofs.YtipdkfmhfakbnaaGreatDoor.TB
