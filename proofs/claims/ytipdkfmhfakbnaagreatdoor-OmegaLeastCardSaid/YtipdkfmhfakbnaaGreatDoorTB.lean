/- Types, and how data lies in cells. Written by a program of mine (wip/tool). -/
import Derived.Test.YtipdkfmhfakbnaaGreatDoorProg
import Derived.Test.YtipdkfmhfakbnaaGreatDoorRows
import Derived.Test.YtipdkfmhfakbnaaGreatDoorAd
set_option linter.unusedVariables false
set_option linter.unusedSimpArgs false
set_option linter.unusedSectionVars false
set_option maxRecDepth 100000
set_option maxHeartbeats 4000000
namespace Go.Proofs.YtipdkfmhfakbnaaGreatDoor.TB
open Go Go.RowKit Go.X Go.Q Go.D
theorem mixed:Tryz.prog.follows .mixedOrders=true:=by kernel_rfl
theorem ti32:TI Tryz.prog 32 2 32 (Value.agg #[(Value.bool false),(Value.slice none 0 0)]):=TI.mk (by kernel_rfl)
theorem ti3:TI Tryz.prog 3 1 8 (Value.int .i64 0):=TI.mk (by kernel_rfl)
theorem ti51:TI Tryz.prog 51 1 24 (Value.slice none 0 0):=TI.mk (by kernel_rfl)
theorem ti30:TI Tryz.prog 30 1 24 (Value.slice none 0 0):=TI.mk (by kernel_rfl)
theorem ti126:TI Tryz.prog 126 2 32 (Value.agg #[(Value.int .i64 0),(Value.slice none 0 0)]):=TI.mk (by kernel_rfl)
theorem ti102:TI Tryz.prog 102 1 24 (Value.slice none 0 0):=TI.mk (by kernel_rfl)
theorem ti84:TI Tryz.prog 84 3 56 (Value.agg #[(Value.slice none 0 0),(Value.bool false),(Value.slice none 0 0)]):=TI.mk (by kernel_rfl)
theorem ti72:TI Tryz.prog 72 1 24 (Value.slice none 0 0):=TI.mk (by kernel_rfl)
theorem ti2:TI Tryz.prog 2 1 8 (Value.int .i64 0):=TI.mk (by kernel_rfl)
theorem ti88:TI Tryz.prog 88 1 24 (Value.slice none 0 0):=TI.mk (by kernel_rfl)
theorem ti22:TI Tryz.prog 22 1 24 (Value.slice none 0 0):=TI.mk (by kernel_rfl)
theorem ti4:TI Tryz.prog 4 1 1 (Value.bool false):=TI.mk (by kernel_rfl)
theorem ti105:TI Tryz.prog 105 8 176 (Value.agg #[(Value.int .i64 0),(Value.slice none 0 0),(Value.slice none 0 0),(Value.slice none 0 0),(Value.slice none 0 0),(Value.slice none 0 0),(Value.slice none 0 0),(Value.slice none 0 0)]):=TI.mk (by kernel_rfl)
theorem ti42:TI Tryz.prog 42 3 40 (Value.agg #[(Value.int .i64 0),(Value.slice none 0 0),(Value.bool false)]):=TI.mk (by kernel_rfl)
theorem ti86:TI Tryz.prog 86 1 4 (Value.int .u32 0):=TI.mk (by kernel_rfl)
theorem ti75:TI Tryz.prog 75 8 144 (Value.agg #[(Value.int .i64 0),(Value.slice none 0 0),(Value.slice none 0 0),(Value.slice none 0 0),(Value.bool false),(Value.slice none 0 0),(Value.slice none 0 0),(Value.int .i64 0)]):=TI.mk (by kernel_rfl)
theorem ti38:TI Tryz.prog 38 1 24 (Value.slice none 0 0):=TI.mk (by kernel_rfl)
theorem ti87:TI Tryz.prog 87 1 8 (Value.int .u64 0):=TI.mk (by kernel_rfl)
theorem ti40:TI Tryz.prog 40 2 32 (Value.agg #[(Value.int .i64 0),(Value.slice none 0 0)]):=TI.mk (by kernel_rfl)
theorem ti55:TI Tryz.prog 55 1 24 (Value.slice none 0 0):=TI.mk (by kernel_rfl)
theorem ti66:TI Tryz.prog 66 5 104 (Value.agg #[(Value.slice none 0 0),(Value.slice none 0 0),(Value.bool false),(Value.slice none 0 0),(Value.slice none 0 0)]):=TI.mk (by kernel_rfl)
theorem ti71:TI Tryz.prog 71 2 16 (Value.agg #[(Value.int .i64 0),(Value.int .i64 0)]):=TI.mk (by kernel_rfl)
theorem ti123:TI Tryz.prog 123 3 40 (Value.agg #[(Value.int .i64 0),(Value.bool false),(Value.slice none 0 0)]):=TI.mk (by kernel_rfl)
theorem ti63:TI Tryz.prog 63 1 24 (Value.slice none 0 0):=TI.mk (by kernel_rfl)
theorem ti137:TI Tryz.prog 137 1 24 (Value.slice none 0 0):=TI.mk (by kernel_rfl)
theorem ti178:TI Tryz.prog 178 6 96 (Value.agg #[(Value.int .i64 0),(Value.slice none 0 0),(Value.bool false),(Value.slice none 0 0),(Value.bool false),(Value.slice none 0 0)]):=TI.mk (by kernel_rfl)
theorem Ig:TI Tryz.prog 103 1 24 (Value.slice none 0 0):=TI.mk (by kernel_rfl)
theorem ti47:TI Tryz.prog 47 1 24 (Value.slice none 0 0):=TI.mk (by kernel_rfl)
theorem ti64:TI Tryz.prog 64 1 24 (Value.slice none 0 0):=TI.mk (by kernel_rfl)
theorem wX:TI Tryz.prog 170 3 40 (Value.agg #[(Value.int .i64 0),(Value.slice none 0 0),(Value.bool false)]):=TI.mk (by kernel_rfl)
theorem ti158:TI Tryz.prog 158 1 24 (Value.slice none 0 0):=TI.mk (by kernel_rfl)
theorem ti139:TI Tryz.prog 139 3 56 (Value.agg #[(Value.slice none 0 0),(Value.bool false),(Value.slice none 0 0)]):=TI.mk (by kernel_rfl)
theorem ti9:TI Tryz.prog 9 1 16 (Value.string ⟨#[]⟩):=TI.mk (by kernel_rfl)
theorem ti211:TI Tryz.prog 211 1 24 (Value.slice none 0 0):=TI.mk (by kernel_rfl)
theorem ti5:TI Tryz.prog 5 1 1 (Value.int .u8 0):=TI.mk (by kernel_rfl)
theorem ti112:TI Tryz.prog 112 1 8 (Value.int .u64 0):=TI.mk (by kernel_rfl)
theorem ti124:TI Tryz.prog 124 1 8 (Value.map none):=TI.mk (by kernel_rfl)
theorem en146:Go.X.Enters Tryz.prog 146:=⟨Tryz.f146,Tryz.func146,by kernel_rfl,by kernel_rfl⟩
theorem en115:Go.X.Enters Tryz.prog 115:=⟨Tryz.f115,Tryz.func115,by kernel_rfl,by kernel_rfl⟩
theorem en116:Go.X.Enters Tryz.prog 116:=⟨Tryz.f116,Tryz.func116,by kernel_rfl,by kernel_rfl⟩
theorem en110:Go.X.Enters Tryz.prog 110:=⟨Tryz.f110,Tryz.func110,by kernel_rfl,by kernel_rfl⟩
theorem en76:Go.X.Enters Tryz.prog 76:=⟨Tryz.f76,Tryz.func76,by kernel_rfl,by kernel_rfl⟩
theorem en82:Go.X.Enters Tryz.prog 82:=⟨Tryz.f82,Tryz.func82,by kernel_rfl,by kernel_rfl⟩
theorem en80:Go.X.Enters Tryz.prog 80:=⟨Tryz.f80,Tryz.func80,by kernel_rfl,by kernel_rfl⟩
theorem en81:Go.X.Enters Tryz.prog 81:=⟨Tryz.f81,Tryz.func81,by kernel_rfl,by kernel_rfl⟩
theorem en86:Go.X.Enters Tryz.prog 86:=⟨Tryz.f86,Tryz.func86,by kernel_rfl,by kernel_rfl⟩
theorem en111:Go.X.Enters Tryz.prog 111:=⟨Tryz.f111,Tryz.func111,by kernel_rfl,by kernel_rfl⟩
theorem en113:Go.X.Enters Tryz.prog 113:=⟨Tryz.f113,Tryz.func113,by kernel_rfl,by kernel_rfl⟩
theorem en83:Go.X.Enters Tryz.prog 83:=⟨Tryz.f83,Tryz.func83,by kernel_rfl,by kernel_rfl⟩
theorem en51:Go.X.Enters Tryz.prog 51:=⟨Tryz.f51,Tryz.func51,by kernel_rfl,by kernel_rfl⟩
theorem en49:Go.X.Enters Tryz.prog 49:=⟨Tryz.f49,Tryz.func49,by kernel_rfl,by kernel_rfl⟩
theorem en129:Go.X.Enters Tryz.prog 129:=⟨Tryz.f129,Tryz.func129,by kernel_rfl,by kernel_rfl⟩
theorem en84:Go.X.Enters Tryz.prog 84:=⟨Tryz.f84,Tryz.func84,by kernel_rfl,by kernel_rfl⟩
theorem en117:Go.X.Enters Tryz.prog 117:=⟨Tryz.f117,Tryz.func117,by kernel_rfl,by kernel_rfl⟩
theorem en118:Go.X.Enters Tryz.prog 118:=⟨Tryz.f118,Tryz.func118,by kernel_rfl,by kernel_rfl⟩
theorem en57:Go.X.Enters Tryz.prog 57:=⟨Tryz.f57,Tryz.func57,by kernel_rfl,by kernel_rfl⟩
theorem en50:Go.X.Enters Tryz.prog 50:=⟨Tryz.f50,Tryz.func50,by kernel_rfl,by kernel_rfl⟩
theorem en98:Go.X.Enters Tryz.prog 98:=⟨Tryz.f98,Tryz.func98,by kernel_rfl,by kernel_rfl⟩
theorem en87:Go.X.Enters Tryz.prog 87:=⟨Tryz.f87,Tryz.func87,by kernel_rfl,by kernel_rfl⟩
theorem en69:Go.X.Enters Tryz.prog 69:=⟨Tryz.f69,Tryz.func69,by kernel_rfl,by kernel_rfl⟩
theorem en119:Go.X.Enters Tryz.prog 119:=⟨Tryz.f119,Tryz.func119,by kernel_rfl,by kernel_rfl⟩
theorem en88:Go.X.Enters Tryz.prog 88:=⟨Tryz.f88,Tryz.func88,by kernel_rfl,by kernel_rfl⟩
theorem en97:Go.X.Enters Tryz.prog 97:=⟨Tryz.f97,Tryz.func97,by kernel_rfl,by kernel_rfl⟩
theorem en18:Go.X.Enters Tryz.prog 18:=⟨Tryz.f18,Tryz.func18,by kernel_rfl,by kernel_rfl⟩
theorem en68:Go.X.Enters Tryz.prog 68:=⟨Tryz.f68,Tryz.func68,by kernel_rfl,by kernel_rfl⟩
theorem en20:Go.X.Enters Tryz.prog 20:=⟨Tryz.f20,Tryz.func20,by kernel_rfl,by kernel_rfl⟩
theorem en17:Go.X.Enters Tryz.prog 17:=⟨Tryz.f17,Tryz.func17,by kernel_rfl,by kernel_rfl⟩
theorem en147:Go.X.Enters Tryz.prog 147:=⟨Tryz.f147,Tryz.func147,by kernel_rfl,by kernel_rfl⟩
theorem en112:Go.X.Enters Tryz.prog 112:=⟨Tryz.f112,Tryz.func112,by kernel_rfl,by kernel_rfl⟩
theorem en114:Go.X.Enters Tryz.prog 114:=⟨Tryz.f114,Tryz.func114,by kernel_rfl,by kernel_rfl⟩
theorem en79:Go.X.Enters Tryz.prog 79:=⟨Tryz.f79,Tryz.func79,by kernel_rfl,by kernel_rfl⟩
theorem en42:Go.X.Enters Tryz.prog 42:=⟨Tryz.f42,Tryz.func42,by kernel_rfl,by kernel_rfl⟩
theorem en78:Go.X.Enters Tryz.prog 78:=⟨Tryz.f78,Tryz.func78,by kernel_rfl,by kernel_rfl⟩
theorem en56:Go.X.Enters Tryz.prog 56:=⟨Tryz.f56,Tryz.func56,by kernel_rfl,by kernel_rfl⟩
theorem en46:Go.X.Enters Tryz.prog 46:=⟨Tryz.f46,Tryz.func46,by kernel_rfl,by kernel_rfl⟩
theorem en77:Go.X.Enters Tryz.prog 77:=⟨Tryz.f77,Tryz.func77,by kernel_rfl,by kernel_rfl⟩
theorem en45:Go.X.Enters Tryz.prog 45:=⟨Tryz.f45,Tryz.func45,by kernel_rfl,by kernel_rfl⟩
theorem en43:Go.X.Enters Tryz.prog 43:=⟨Tryz.f43,Tryz.func43,by kernel_rfl,by kernel_rfl⟩
theorem en55:Go.X.Enters Tryz.prog 55:=⟨Tryz.f55,Tryz.func55,by kernel_rfl,by kernel_rfl⟩
theorem en44:Go.X.Enters Tryz.prog 44:=⟨Tryz.f44,Tryz.func44,by kernel_rfl,by kernel_rfl⟩
theorem en171:Go.X.Enters Tryz.prog 171:=⟨Tryz.f171,Tryz.func171,by kernel_rfl,by kernel_rfl⟩
theorem en121:Go.X.Enters Tryz.prog 121:=⟨Tryz.f121,Tryz.func121,by kernel_rfl,by kernel_rfl⟩
theorem en72:Go.X.Enters Tryz.prog 72:=⟨Tryz.f72,Tryz.func72,by kernel_rfl,by kernel_rfl⟩
theorem en104:Go.X.Enters Tryz.prog 104:=⟨Tryz.f104,Tryz.func104,by kernel_rfl,by kernel_rfl⟩
theorem en73:Go.X.Enters Tryz.prog 73:=⟨Tryz.f73,Tryz.func73,by kernel_rfl,by kernel_rfl⟩
theorem en39:Go.X.Enters Tryz.prog 39:=⟨Tryz.f39,Tryz.func39,by kernel_rfl,by kernel_rfl⟩
theorem en89:Go.X.Enters Tryz.prog 89:=⟨Tryz.f89,Tryz.func89,by kernel_rfl,by kernel_rfl⟩
theorem en47:Go.X.Enters Tryz.prog 47:=⟨Tryz.f47,Tryz.func47,by kernel_rfl,by kernel_rfl⟩
theorem en128:Go.X.Enters Tryz.prog 128:=⟨Tryz.f128,Tryz.func128,by kernel_rfl,by kernel_rfl⟩
theorem en52:Go.X.Enters Tryz.prog 52:=⟨Tryz.f52,Tryz.func52,by kernel_rfl,by kernel_rfl⟩
theorem en102:Go.X.Enters Tryz.prog 102:=⟨Tryz.f102,Tryz.func102,by kernel_rfl,by kernel_rfl⟩
theorem en103:Go.X.Enters Tryz.prog 103:=⟨Tryz.f103,Tryz.func103,by kernel_rfl,by kernel_rfl⟩
theorem en71:Go.X.Enters Tryz.prog 71:=⟨Tryz.f71,Tryz.func71,by kernel_rfl,by kernel_rfl⟩
theorem en99:Go.X.Enters Tryz.prog 99:=⟨Tryz.f99,Tryz.func99,by kernel_rfl,by kernel_rfl⟩
theorem en100:Go.X.Enters Tryz.prog 100:=⟨Tryz.f100,Tryz.func100,by kernel_rfl,by kernel_rfl⟩
theorem en101:Go.X.Enters Tryz.prog 101:=⟨Tryz.f101,Tryz.func101,by kernel_rfl,by kernel_rfl⟩
theorem en70:Go.X.Enters Tryz.prog 70:=⟨Tryz.f70,Tryz.func70,by kernel_rfl,by kernel_rfl⟩
theorem en19:Go.X.Enters Tryz.prog 19:=⟨Tryz.f19,Tryz.func19,by kernel_rfl,by kernel_rfl⟩
theorem en21:Go.X.Enters Tryz.prog 21:=⟨Tryz.f21,Tryz.func21,by kernel_rfl,by kernel_rfl⟩
theorem en58:Go.X.Enters Tryz.prog 58:=⟨Tryz.f58,Tryz.func58,by kernel_rfl,by kernel_rfl⟩
theorem en28:Go.X.Enters Tryz.prog 28:=⟨Tryz.f28,Tryz.func28,by kernel_rfl,by kernel_rfl⟩
theorem en25:Go.X.Enters Tryz.prog 25:=⟨Tryz.f25,Tryz.func25,by kernel_rfl,by kernel_rfl⟩
theorem en11:Go.X.Enters Tryz.prog 11:=⟨Tryz.f11,Tryz.func11,by kernel_rfl,by kernel_rfl⟩
theorem en37:Go.X.Enters Tryz.prog 37:=⟨Tryz.f37,Tryz.func37,by kernel_rfl,by kernel_rfl⟩
theorem en90:Go.X.Enters Tryz.prog 90:=⟨Tryz.f90,Tryz.func90,by kernel_rfl,by kernel_rfl⟩
theorem en144:Go.X.Enters Tryz.prog 144:=⟨Tryz.f144,Tryz.func144,by kernel_rfl,by kernel_rfl⟩
theorem en165:Go.X.Enters Tryz.prog 165:=⟨Tryz.f165,Tryz.func165,by kernel_rfl,by kernel_rfl⟩
theorem en166:Go.X.Enters Tryz.prog 166:=⟨Tryz.f166,Tryz.func166,by kernel_rfl,by kernel_rfl⟩
theorem en164:Go.X.Enters Tryz.prog 164:=⟨Tryz.f164,Tryz.func164,by kernel_rfl,by kernel_rfl⟩
theorem en167:Go.X.Enters Tryz.prog 167:=⟨Tryz.f167,Tryz.func167,by kernel_rfl,by kernel_rfl⟩
theorem en160:Go.X.Enters Tryz.prog 160:=⟨Tryz.f160,Tryz.func160,by kernel_rfl,by kernel_rfl⟩
theorem en134:Go.X.Enters Tryz.prog 134:=⟨Tryz.f134,Tryz.func134,by kernel_rfl,by kernel_rfl⟩
theorem en126:Go.X.Enters Tryz.prog 126:=⟨Tryz.f126,Tryz.func126,by kernel_rfl,by kernel_rfl⟩
theorem en143:Go.X.Enters Tryz.prog 143:=⟨Tryz.f143,Tryz.func143,by kernel_rfl,by kernel_rfl⟩
theorem en168:Go.X.Enters Tryz.prog 168:=⟨Tryz.f168,Tryz.func168,by kernel_rfl,by kernel_rfl⟩
theorem en141:Go.X.Enters Tryz.prog 141:=⟨Tryz.f141,Tryz.func141,by kernel_rfl,by kernel_rfl⟩
theorem en148:Go.X.Enters Tryz.prog 148:=⟨Tryz.f148,Tryz.func148,by kernel_rfl,by kernel_rfl⟩
theorem en93:Go.X.Enters Tryz.prog 93:=⟨Tryz.f93,Tryz.func93,by kernel_rfl,by kernel_rfl⟩
theorem en92:Go.X.Enters Tryz.prog 92:=⟨Tryz.f92,Tryz.func92,by kernel_rfl,by kernel_rfl⟩
theorem en136:Go.X.Enters Tryz.prog 136:=⟨Tryz.f136,Tryz.func136,by kernel_rfl,by kernel_rfl⟩
theorem en161:Go.X.Enters Tryz.prog 161:=⟨Tryz.f161,Tryz.func161,by kernel_rfl,by kernel_rfl⟩
theorem en169:Go.X.Enters Tryz.prog 169:=⟨Tryz.f169,Tryz.func169,by kernel_rfl,by kernel_rfl⟩
theorem en48:Go.X.Enters Tryz.prog 48:=⟨Tryz.f48,Tryz.func48,by kernel_rfl,by kernel_rfl⟩
theorem DH:Go.X.Enters Tryz.prog 127:=⟨Tryz.f127,Tryz.func127,by kernel_rfl,by kernel_rfl⟩
theorem FV:Go.X.Enters Tryz.prog 123:=⟨Tryz.f123,Tryz.func123,by kernel_rfl,by kernel_rfl⟩
theorem MR:Go.X.Enters Tryz.prog 135:=⟨Tryz.f135,Tryz.func135,by kernel_rfl,by kernel_rfl⟩
theorem LU:Go.X.Enters Tryz.prog 145:=⟨Tryz.f145,Tryz.func145,by kernel_rfl,by kernel_rfl⟩
theorem GP:Go.X.Enters Tryz.prog 94:=⟨Tryz.f94,Tryz.func94,by kernel_rfl,by kernel_rfl⟩
theorem IV:Go.X.Enters Tryz.prog 149:=⟨Tryz.f149,Tryz.func149,by kernel_rfl,by kernel_rfl⟩
theorem HZ:Go.X.Enters Tryz.prog 120:=⟨Tryz.f120,Tryz.func120,by kernel_rfl,by kernel_rfl⟩
theorem en96:Go.X.Enters Tryz.prog 96:=⟨Tryz.f96,Tryz.func96,by kernel_rfl,by kernel_rfl⟩
theorem en91:Go.X.Enters Tryz.prog 91:=⟨Tryz.f91,Tryz.func91,by kernel_rfl,by kernel_rfl⟩
theorem en63:Go.X.Enters Tryz.prog 63:=⟨Tryz.f63,Tryz.func63,by kernel_rfl,by kernel_rfl⟩
theorem en64:Go.X.Enters Tryz.prog 64:=⟨Tryz.f64,Tryz.func64,by kernel_rfl,by kernel_rfl⟩
theorem Nl:Go.X.Enters Tryz.prog 156:=⟨Tryz.f156,Tryz.func156,by kernel_rfl,by kernel_rfl⟩
theorem Jr:Go.X.Enters Tryz.prog 157:=⟨Tryz.f157,Tryz.func157,by kernel_rfl,by kernel_rfl⟩
theorem en124:Go.X.Enters Tryz.prog 124:=⟨Tryz.f124,Tryz.func124,by kernel_rfl,by kernel_rfl⟩
theorem en125:Go.X.Enters Tryz.prog 125:=⟨Tryz.f125,Tryz.func125,by kernel_rfl,by kernel_rfl⟩
theorem en95:Go.X.Enters Tryz.prog 95:=⟨Tryz.f95,Tryz.func95,by kernel_rfl,by kernel_rfl⟩
theorem en65:Go.X.Enters Tryz.prog 65:=⟨Tryz.f65,Tryz.func65,by kernel_rfl,by kernel_rfl⟩
theorem en66:Go.X.Enters Tryz.prog 66:=⟨Tryz.f66,Tryz.func66,by kernel_rfl,by kernel_rfl⟩
theorem JZ:Go.X.Enters Tryz.prog 133:=⟨Tryz.f133,Tryz.func133,by kernel_rfl,by kernel_rfl⟩
theorem en130:Go.X.Enters Tryz.prog 130:=⟨Tryz.f130,Tryz.func130,by kernel_rfl,by kernel_rfl⟩
theorem en105:Go.X.Enters Tryz.prog 105:=⟨Tryz.f105,Tryz.func105,by kernel_rfl,by kernel_rfl⟩
theorem en107:Go.X.Enters Tryz.prog 107:=⟨Tryz.f107,Tryz.func107,by kernel_rfl,by kernel_rfl⟩
theorem en109:Go.X.Enters Tryz.prog 109:=⟨Tryz.f109,Tryz.func109,by kernel_rfl,by kernel_rfl⟩
theorem en159:Go.X.Enters Tryz.prog 159:=⟨Tryz.f159,Tryz.func159,by kernel_rfl,by kernel_rfl⟩
theorem en132:Go.X.Enters Tryz.prog 132:=⟨Tryz.f132,Tryz.func132,by kernel_rfl,by kernel_rfl⟩
theorem en74:Go.X.Enters Tryz.prog 74:=⟨Tryz.f74,Tryz.func74,by kernel_rfl,by kernel_rfl⟩
theorem en62:Go.X.Enters Tryz.prog 62:=⟨Tryz.f62,Tryz.func62,by kernel_rfl,by kernel_rfl⟩
theorem en140:Go.X.Enters Tryz.prog 140:=⟨Tryz.f140,Tryz.func140,by kernel_rfl,by kernel_rfl⟩
theorem en162:Go.X.Enters Tryz.prog 162:=⟨Tryz.f162,Tryz.func162,by kernel_rfl,by kernel_rfl⟩
theorem en163:Go.X.Enters Tryz.prog 163:=⟨Tryz.f163,Tryz.func163,by kernel_rfl,by kernel_rfl⟩
theorem en138:Go.X.Enters Tryz.prog 138:=⟨Tryz.f138,Tryz.func138,by kernel_rfl,by kernel_rfl⟩
theorem en137:Go.X.Enters Tryz.prog 137:=⟨Tryz.f137,Tryz.func137,by kernel_rfl,by kernel_rfl⟩
theorem en170:Go.X.Enters Tryz.prog 170:=⟨Tryz.f170,Tryz.func170,by kernel_rfl,by kernel_rfl⟩
theorem en142:Go.X.Enters Tryz.prog 142:=⟨Tryz.f142,Tryz.func142,by kernel_rfl,by kernel_rfl⟩
theorem en139:Go.X.Enters Tryz.prog 139:=⟨Tryz.f139,Tryz.func139,by kernel_rfl,by kernel_rfl⟩
theorem en108:Go.X.Enters Tryz.prog 108:=⟨Tryz.f108,Tryz.func108,by kernel_rfl,by kernel_rfl⟩
theorem en75:Go.X.Enters Tryz.prog 75:=⟨Tryz.f75,Tryz.func75,by kernel_rfl,by kernel_rfl⟩
theorem en40:Go.X.Enters Tryz.prog 40:=⟨Tryz.f40,Tryz.func40,by kernel_rfl,by kernel_rfl⟩
theorem en36:Go.X.Enters Tryz.prog 36:=⟨Tryz.f36,Tryz.func36,by kernel_rfl,by kernel_rfl⟩
theorem en41:Go.X.Enters Tryz.prog 41:=⟨Tryz.f41,Tryz.func41,by kernel_rfl,by kernel_rfl⟩
theorem en15:Go.X.Enters Tryz.prog 15:=⟨Tryz.f15,Tryz.func15,by kernel_rfl,by kernel_rfl⟩
theorem en35:Go.X.Enters Tryz.prog 35:=⟨Tryz.f35,Tryz.func35,by kernel_rfl,by kernel_rfl⟩
theorem en16:Go.X.Enters Tryz.prog 16:=⟨Tryz.f16,Tryz.func16,by kernel_rfl,by kernel_rfl⟩
theorem en12:Go.X.Enters Tryz.prog 12:=⟨Tryz.f12,Tryz.func12,by kernel_rfl,by kernel_rfl⟩
theorem en10:Go.X.Enters Tryz.prog 10:=⟨Tryz.f10,Tryz.func10,by kernel_rfl,by kernel_rfl⟩
theorem en5:Go.X.Enters Tryz.prog 5:=⟨Tryz.f5,Tryz.func5,by kernel_rfl,by kernel_rfl⟩
theorem H3:l8 Tryz.prog 9 (λx:List UInt8=>Value.string (s8 x)):=l8.str Tryz.underlying9
def tb:List (dU Tryz.prog):=[⟨32,_,_,_,_,Tryz.underlying32,ti32⟩,⟨3,_,_,_,_,Tryz.underlying3,ti3⟩,⟨51,_,_,_,_,Tryz.underlying51,ti51⟩,⟨30,_,_,_,_,Tryz.underlying30,ti30⟩,⟨126,_,_,_,_,Tryz.underlying126,ti126⟩,⟨102,_,_,_,_,Tryz.underlying102,ti102⟩,⟨84,_,_,_,_,Tryz.underlying84,ti84⟩,⟨72,_,_,_,_,Tryz.underlying72,ti72⟩,⟨2,_,_,_,_,Tryz.underlying2,ti2⟩,⟨88,_,_,_,_,Tryz.underlying88,ti88⟩,⟨22,_,_,_,_,Tryz.underlying22,ti22⟩,⟨4,_,_,_,_,Tryz.underlying4,ti4⟩,⟨105,_,_,_,_,Tryz.underlying105,ti105⟩,⟨42,_,_,_,_,Tryz.underlying42,ti42⟩,⟨86,_,_,_,_,Tryz.underlying86,ti86⟩,⟨75,_,_,_,_,Tryz.underlying75,ti75⟩,⟨38,_,_,_,_,Tryz.underlying38,ti38⟩,⟨87,_,_,_,_,Tryz.underlying87,ti87⟩,⟨40,_,_,_,_,Tryz.underlying40,ti40⟩,⟨55,_,_,_,_,Tryz.underlying55,ti55⟩,⟨66,_,_,_,_,Tryz.underlying66,ti66⟩,⟨71,_,_,_,_,Tryz.underlying71,ti71⟩,⟨123,_,_,_,_,Tryz.underlying123,ti123⟩,⟨63,_,_,_,_,Tryz.underlying63,ti63⟩,⟨137,_,_,_,_,Tryz.underlying137,ti137⟩,⟨178,_,_,_,_,Tryz.underlying178,ti178⟩,⟨103,_,_,_,_,Tryz.underlying103,Ig⟩,⟨47,_,_,_,_,Tryz.underlying47,ti47⟩,⟨64,_,_,_,_,Tryz.underlying64,ti64⟩,⟨170,_,_,_,_,Tryz.underlying170,wX⟩,⟨158,_,_,_,_,Tryz.underlying158,ti158⟩,⟨139,_,_,_,_,Tryz.underlying139,ti139⟩,⟨9,_,_,_,_,Tryz.underlying9,ti9⟩,⟨211,_,_,_,_,Tryz.underlying211,ti211⟩,⟨5,_,_,_,_,Tryz.underlying5,ti5⟩,⟨112,_,_,_,_,Tryz.underlying112,ti112⟩,⟨124,_,_,_,_,Tryz.underlying124,ti124⟩]
instance:aM aD:=⟨λκ x=>[.v (Value.bool x.bM),.ro (aF .u32) κ x.aQ],
 λh=>by obtain⟨v0,h0,k0,-⟩:=Ql h;exact⟨_,_,h0,⟨rfl,rfl⟩,_,_,rfl,k0,rfl⟩,
 λh=>by obtain⟨_,_,rfl,⟨rfl,_⟩,v0,_,rfl,k0,rfl⟩:=h;exact Vg ⟨v0,rfl,k0,trivial⟩⟩
instance:aM dG:=⟨λκ x=>[.v (Value.int .i64 x.Linear.Const),.ro iu κ x.Linear.bE,.v (Value.bool x.jg)],
 λh=>by obtain⟨v0,h0,k0,-⟩:=PX h;exact⟨_,_,h0,⟨rfl,rfl⟩,_,_,rfl,k0,_,_,rfl,⟨rfl,rfl⟩,rfl⟩,
 λh=>by obtain⟨_,_,rfl,⟨rfl,_⟩,v0,_,rfl,k0,_,_,rfl,⟨rfl,_⟩,rfl⟩:=h;exact R3 ⟨v0,rfl,k0,trivial⟩⟩
instance:aM oU:=⟨λκ x=>[.v (Value.int .i64 x.Const),.ro iu κ x.bE],
 λh=>by obtain⟨v0,h0,k0,-⟩:=Qy h;exact⟨_,_,h0,⟨rfl,rfl⟩,_,_,rfl,k0,rfl⟩,
 λh=>by obtain⟨_,_,rfl,⟨rfl,_⟩,v0,_,rfl,k0,rfl⟩:=h;exact Qv ⟨v0,rfl,k0,trivial⟩⟩
instance:aM iu:=⟨λκ x=>[.v (Value.int .i64 x.Var),.v (Value.int .i64 x.N)],
 λh=>by obtain⟨h0,-⟩:=SH h;exact⟨_,_,h0,⟨rfl,rfl⟩,_,_,rfl,⟨rfl,rfl⟩,rfl⟩,
 λh=>by obtain⟨_,_,rfl,⟨rfl,_⟩,_,_,rfl,⟨rfl,_⟩,rfl⟩:=h;exact Sk ⟨rfl,trivial⟩⟩
instance:aM aR:=⟨λκ x=>[.ro aD κ x.bE,.v (Value.bool x.dO.bM),.ro (aF .u32) κ x.dO.aQ],
 λh=>by obtain⟨v0,v1,h0,k0,k1,-⟩:=Vt h;exact⟨_,_,h0,k0,_,_,rfl,⟨rfl,rfl⟩,_,_,rfl,k1,rfl⟩,
 λh=>by obtain⟨v0,_,rfl,k0,_,_,rfl,⟨rfl,_⟩,v1,_,rfl,k1,rfl⟩:=h;exact Qn ⟨v0,v1,rfl,k0,k1,trivial⟩⟩
instance:aM bC:=⟨λκ x=>[.ro eR κ x.Uses,.v (Value.bool x.gB.bM),.ro (aF .u32) κ x.gB.aQ],
 λh=>by obtain⟨v0,v1,h0,k0,k1,-⟩:=TE h;exact⟨_,_,h0,k0,_,_,rfl,⟨rfl,rfl⟩,_,_,rfl,k1,rfl⟩,
 λh=>by obtain⟨v0,_,rfl,k0,_,_,rfl,⟨rfl,_⟩,v1,_,rfl,k1,rfl⟩:=h;exact TO ⟨v0,v1,rfl,k0,k1,trivial⟩⟩
instance:aM eR:=⟨λκ x=>[.v (Value.int .i64 x.Index),.v (Value.bool x.N.bM),.ro (aF .u32) κ x.N.aQ],
 λh=>by obtain⟨v0,h0,k0,-⟩:=Sj h;exact⟨_,_,h0,⟨rfl,rfl⟩,_,_,rfl,⟨rfl,rfl⟩,_,_,rfl,k0,rfl⟩,
 λh=>by obtain⟨_,_,rfl,⟨rfl,_⟩,_,_,rfl,⟨rfl,_⟩,v0,_,rfl,k0,rfl⟩:=h;exact Pm ⟨v0,rfl,k0,trivial⟩⟩
instance:aM jo:=⟨λκ x=>[.ro bC κ x.Steps,.ro aD κ x.Form,.v (Value.bool x.dO.bM),.ro (aF .u32) κ x.dO.aQ,.ro jo κ x.mQ],
 λh=>by obtain⟨v0,v1,v2,v3,h0,k0,k1,k2,k3,-⟩:=VF h;exact⟨_,_,h0,k0,_,_,rfl,k1,_,_,rfl,⟨rfl,rfl⟩,_,_,rfl,k2,_,_,rfl,k3,rfl⟩,
 λh=>by obtain⟨v0,_,rfl,k0,v1,_,rfl,k1,_,_,rfl,⟨rfl,_⟩,v2,_,rfl,k2,v3,_,rfl,k3,rfl⟩:=h;exact PG ⟨v0,v1,v2,v3,rfl,k0,k1,k2,k3,trivial⟩⟩
instance:aM aP:=⟨λκ x=>[.v (Value.int .i64 x.pos),.ro aD κ x.g],
 λh=>by obtain⟨v0,h0,k0,-⟩:=OS h;exact⟨_,_,h0,⟨rfl,rfl⟩,_,_,rfl,k0,rfl⟩,
 λh=>by obtain⟨_,_,rfl,⟨rfl,_⟩,v0,_,rfl,k0,rfl⟩:=h;exact R0 ⟨v0,rfl,k0,trivial⟩⟩
instance:aM bH:=⟨λκ x=>[.v (Value.int .i64 x.v),.ro (aF .i64) κ x.aB,.v (Value.bool x.dP)],
 λh=>by obtain⟨v0,h0,k0,-⟩:=Ug h;exact⟨_,_,h0,⟨rfl,rfl⟩,_,_,rfl,k0,_,_,rfl,⟨rfl,rfl⟩,rfl⟩,
 λh=>by obtain⟨_,_,rfl,⟨rfl,_⟩,v0,_,rfl,k0,_,_,rfl,⟨rfl,_⟩,rfl⟩:=h;exact QC ⟨v0,rfl,k0,trivial⟩⟩
instance:aM FF:=⟨λκ x=>[.v (Value.int .i64 x.n),.ro aR κ x.aA,.ro bC κ x.aU,.ro (bN aD) κ x.u,.ro (aF .i64) κ x.aN,.ro aD κ x.value,.ro aP κ x.aB,.ro bH κ x.aK],
 λh=>by obtain⟨v0,v1,v2,v3,v4,v5,v6,h0,k0,k1,k2,k3,k4,k5,k6,-⟩:=UT h;exact⟨_,_,h0,⟨rfl,rfl⟩,_,_,rfl,k0,_,_,rfl,k1,_,_,rfl,k2,_,_,rfl,k3,_,_,rfl,k4,_,_,rfl,k5,_,_,rfl,k6,rfl⟩,
 λh=>by obtain⟨_,_,rfl,⟨rfl,_⟩,v0,_,rfl,k0,v1,_,rfl,k1,v2,_,rfl,k2,v3,_,rfl,k3,v4,_,rfl,k4,v5,_,rfl,k5,v6,_,rfl,k6,rfl⟩:=h;exact OT ⟨v0,v1,v2,v3,v4,v5,v6,rfl,k0,k1,k2,k3,k4,k5,k6,trivial⟩⟩
instance:aM fK:=⟨λκ x=>[.v (Value.int .i64 x.kind),.ro aD κ x.x,.ro bC κ x.proof.Steps,.ro aD κ x.proof.Form,.v (Value.bool x.proof.dO.bM),.ro (aF .u32) κ x.proof.dO.aQ,.ro jo κ x.proof.mQ,.v (Value.int .i64 x.v)],
 λh=>by obtain⟨v0,v1,v2,v3,v4,h0,k0,k1,k2,k3,k4,-⟩:=Pc h;exact⟨_,_,h0,⟨rfl,rfl⟩,_,_,rfl,k0,_,_,rfl,k1,_,_,rfl,k2,_,_,rfl,⟨rfl,rfl⟩,_,_,rfl,k3,_,_,rfl,k4,_,_,rfl,⟨rfl,rfl⟩,rfl⟩,
 λh=>by obtain⟨_,_,rfl,⟨rfl,_⟩,v0,_,rfl,k0,v1,_,rfl,k1,v2,_,rfl,k2,_,_,rfl,⟨rfl,_⟩,v3,_,rfl,k3,v4,_,rfl,k4,_,_,rfl,⟨rfl,_⟩,rfl⟩:=h;exact Td ⟨v0,v1,v2,v3,v4,rfl,k0,k1,k2,k3,k4,trivial⟩⟩
instance:aM jV:=⟨λκ x=>[.v (Value.int .i64 x.up.pos),.ro aD κ x.up.g,.v (Value.bool x.low.bM),.ro (aF .u32) κ x.low.aQ,.v (Value.bool x.high.bM),.ro (aF .u32) κ x.high.aQ],
 λh=>by obtain⟨v0,v1,v2,h0,k0,k1,k2,-⟩:=Vk h;exact⟨_,_,h0,⟨rfl,rfl⟩,_,_,rfl,k0,_,_,rfl,⟨rfl,rfl⟩,_,_,rfl,k1,_,_,rfl,⟨rfl,rfl⟩,_,_,rfl,k2,rfl⟩,
 λh=>by obtain⟨_,_,rfl,⟨rfl,_⟩,v0,_,rfl,k0,_,_,rfl,⟨rfl,_⟩,v1,_,rfl,k1,_,_,rfl,⟨rfl,_⟩,v2,_,rfl,k2,rfl⟩:=h;exact Vd ⟨v0,v1,v2,rfl,k0,k1,k2,trivial⟩⟩
abbrev zR(s:aS):List Lf:=[(lI .i64 s.n),(.ro aR false s.aA),(.ro bC false s.aU),(.ro (bN aD) false s.u),(.ro (aF .i64) false s.aN),(.ro aD false s.value),(.ro aP false s.aB),(.ro bH false s.aK)]
abbrev jG(s:aS):List Lf:=[(lI .i64 s.n),.ap 1 aR false s.aA,.ap 2 bC false s.aU,.own 3,.own 4,.own 5,.own 6,.ap 7 bH false s.aK]
abbrev je(s:aS):List Lf:=[(lI .i64 s.n),.ap 8 aR false s.aA,.ap 9 bC false s.aU,.own 10,.own 11,.own 12,.own 13,.ap 14 bH false s.aK]
abbrev zF(s:aS):List Ob:=[.box (jG s),.aO aR false s.aA,.aO bC false s.aU,.row (bN aD) false s.u,.row (aF .i64) true s.aN,.row aD false s.value,.row aP false s.aB,.aO bH false s.aK]
abbrev uR(s:aS):List (Nat×Option Ob):=[(0,some (.box (jG s))),(1,some (.aO aR false s.aA)),(2,some (.aO bC false s.aU)),(3,some (.row (bN aD) false s.u)),(4,some (.row (aF .i64) true s.aN)),(5,some (.row aD false s.value)),(6,some (.row aP false s.aB)),(7,some (.aO bH false s.aK))]
end Go.Proofs.YtipdkfmhfakbnaaGreatDoor.TB
