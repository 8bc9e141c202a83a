/- Types, and how data lies in cells. Written by a program of mine (wip/tool). -/
import Derived.Test.YtipdkfmhfakbnaaGreatDoorRows
import Derived.Test.YtipdkfmhfakbnaaGreatDoorAd
set_option linter.unusedVariables false
set_option linter.unusedSimpArgs false
set_option maxRecDepth 100000
set_option maxHeartbeats 4000000
namespace Go.Proofs.YtipdkfmhfakbnaaGreatDoor.TB
open Go Go.RowKit Go.X Go.Q Go.D
theorem mixed:Tryz.prog.follows .mixedOrders=true:=by kernel_rfl
noncomputable abbrev aL:=Tryz.prog
abbrev j6:List Nat:=[0,1,2,3,4,5]
abbrev j7:List Nat:=[0,1,2,3,4,5,6]
abbrev j8:List Nat:=[0,1,2,3,4,5,6,7]
abbrev j9:List Nat:=[0,1,2,3,4,5,6,7,8]
abbrev kT:List Nat:=[0,1,2,3,4,5,6,7,8,9]
abbrev j11:List Nat:=[0,1,2,3,4,5,6,7,8,9,10]
abbrev lV:List Nat:=[0,1,2,3,4,5,6,7,8,9,10,11]
abbrev vI:List Nat:=[0,1,2,3,4,5,6,7,8,9,10,11,12,13]
abbrev dU:List Nat:=[0,1,2,3,4,5,6,7,8,9,10,11,12,13,14]
abbrev kF:List Nat:=[0,1,2,3,4,5,6,7,8,9,10,11,12,13,14,15]
abbrev o8:List Nat:=[0,1,2,3,4,5,6,7,8,9,10,11,12,13,14,15,16]
abbrev rR:List Nat:=[0,1,2,3,4,5,6,7,8,9,10,11,12,13,14,15,16,17]
abbrev j19:List Nat:=[0,1,2,3,4,5,6,7,8,9,10,11,12,13,14,15,16,17,18]
abbrev j20:List Nat:=[0,1,2,3,4,5,6,7,8,9,10,11,12,13,14,15,16,17,18,19]
theorem ti32:TI aL 32 2 32 (Value.agg #[(Value.bool false),(Value.slice none 0 0)]):=TI.mk (by kernel_rfl)
theorem ti3:TI aL 3 1 8 (Value.int .i64 0):=TI.mk (by kernel_rfl)
theorem ti51:TI aL 51 1 24 (Value.slice none 0 0):=TI.mk (by kernel_rfl)
theorem ti30:TI aL 30 1 24 (Value.slice none 0 0):=TI.mk (by kernel_rfl)
theorem ti126:TI aL 126 2 32 (Value.agg #[(Value.int .i64 0),(Value.slice none 0 0)]):=TI.mk (by kernel_rfl)
theorem ti102:TI aL 102 1 24 (Value.slice none 0 0):=TI.mk (by kernel_rfl)
theorem ti84:TI aL 84 3 56 (Value.agg #[(Value.slice none 0 0),(Value.bool false),(Value.slice none 0 0)]):=TI.mk (by kernel_rfl)
theorem ti72:TI aL 72 1 24 (Value.slice none 0 0):=TI.mk (by kernel_rfl)
theorem ti2:TI aL 2 1 8 (Value.int .i64 0):=TI.mk (by kernel_rfl)
theorem ti88:TI aL 88 1 24 (Value.slice none 0 0):=TI.mk (by kernel_rfl)
theorem ti22:TI aL 22 1 24 (Value.slice none 0 0):=TI.mk (by kernel_rfl)
theorem ti4:TI aL 4 1 1 (Value.bool false):=TI.mk (by kernel_rfl)
theorem ti105:TI aL 105 8 176 (Value.agg #[(Value.int .i64 0),(Value.slice none 0 0),(Value.slice none 0 0),(Value.slice none 0 0),(Value.slice none 0 0),(Value.slice none 0 0),(Value.slice none 0 0),(Value.slice none 0 0)]):=TI.mk (by kernel_rfl)
theorem ti42:TI aL 42 3 40 (Value.agg #[(Value.int .i64 0),(Value.slice none 0 0),(Value.bool false)]):=TI.mk (by kernel_rfl)
theorem ti86:TI aL 86 1 4 (Value.int .u32 0):=TI.mk (by kernel_rfl)
theorem ti75:TI aL 75 8 144 (Value.agg #[(Value.int .i64 0),(Value.slice none 0 0),(Value.slice none 0 0),(Value.slice none 0 0),(Value.bool false),(Value.slice none 0 0),(Value.slice none 0 0),(Value.int .i64 0)]):=TI.mk (by kernel_rfl)
theorem ti38:TI aL 38 1 24 (Value.slice none 0 0):=TI.mk (by kernel_rfl)
theorem ti87:TI aL 87 1 8 (Value.int .u64 0):=TI.mk (by kernel_rfl)
theorem ti40:TI aL 40 2 32 (Value.agg #[(Value.int .i64 0),(Value.slice none 0 0)]):=TI.mk (by kernel_rfl)
theorem ti55:TI aL 55 1 24 (Value.slice none 0 0):=TI.mk (by kernel_rfl)
theorem ti66:TI aL 66 5 104 (Value.agg #[(Value.slice none 0 0),(Value.slice none 0 0),(Value.bool false),(Value.slice none 0 0),(Value.slice none 0 0)]):=TI.mk (by kernel_rfl)
theorem ti71:TI aL 71 2 16 (Value.agg #[(Value.int .i64 0),(Value.int .i64 0)]):=TI.mk (by kernel_rfl)
theorem ti123:TI aL 123 3 40 (Value.agg #[(Value.int .i64 0),(Value.bool false),(Value.slice none 0 0)]):=TI.mk (by kernel_rfl)
theorem ti63:TI aL 63 1 24 (Value.slice none 0 0):=TI.mk (by kernel_rfl)
theorem ti137:TI aL 137 1 24 (Value.slice none 0 0):=TI.mk (by kernel_rfl)
theorem ti178:TI aL 178 6 96 (Value.agg #[(Value.int .i64 0),(Value.slice none 0 0),(Value.bool false),(Value.slice none 0 0),(Value.bool false),(Value.slice none 0 0)]):=TI.mk (by kernel_rfl)
theorem MV:TI aL 103 1 24 (Value.slice none 0 0):=TI.mk (by kernel_rfl)
theorem ti47:TI aL 47 1 24 (Value.slice none 0 0):=TI.mk (by kernel_rfl)
theorem ti64:TI aL 64 1 24 (Value.slice none 0 0):=TI.mk (by kernel_rfl)
theorem zO:TI aL 170 3 40 (Value.agg #[(Value.int .i64 0),(Value.slice none 0 0),(Value.bool false)]):=TI.mk (by kernel_rfl)
theorem ti158:TI aL 158 1 24 (Value.slice none 0 0):=TI.mk (by kernel_rfl)
theorem ti139:TI aL 139 3 56 (Value.agg #[(Value.slice none 0 0),(Value.bool false),(Value.slice none 0 0)]):=TI.mk (by kernel_rfl)
theorem ti9:TI aL 9 1 16 (Value.string ⟨#[]⟩):=TI.mk (by kernel_rfl)
theorem ti211:TI aL 211 1 24 (Value.slice none 0 0):=TI.mk (by kernel_rfl)
theorem ti5:TI aL 5 1 1 (Value.int .u8 0):=TI.mk (by kernel_rfl)
theorem ti112:TI aL 112 1 8 (Value.int .u64 0):=TI.mk (by kernel_rfl)
theorem ti124:TI aL 124 1 8 (Value.map none):=TI.mk (by kernel_rfl)
theorem en146:Go.X.Enters aL 146:=⟨Tryz.f146,Tryz.func146,by kernel_rfl,by kernel_rfl⟩
theorem en115:Go.X.Enters aL 115:=⟨Tryz.f115,Tryz.func115,by kernel_rfl,by kernel_rfl⟩
theorem en116:Go.X.Enters aL 116:=⟨Tryz.f116,Tryz.func116,by kernel_rfl,by kernel_rfl⟩
theorem en110:Go.X.Enters aL 110:=⟨Tryz.f110,Tryz.func110,by kernel_rfl,by kernel_rfl⟩
theorem en76:Go.X.Enters aL 76:=⟨Tryz.f76,Tryz.func76,by kernel_rfl,by kernel_rfl⟩
theorem en82:Go.X.Enters aL 82:=⟨Tryz.f82,Tryz.func82,by kernel_rfl,by kernel_rfl⟩
theorem en80:Go.X.Enters aL 80:=⟨Tryz.f80,Tryz.func80,by kernel_rfl,by kernel_rfl⟩
theorem en81:Go.X.Enters aL 81:=⟨Tryz.f81,Tryz.func81,by kernel_rfl,by kernel_rfl⟩
theorem en86:Go.X.Enters aL 86:=⟨Tryz.f86,Tryz.func86,by kernel_rfl,by kernel_rfl⟩
theorem en111:Go.X.Enters aL 111:=⟨Tryz.f111,Tryz.func111,by kernel_rfl,by kernel_rfl⟩
theorem en113:Go.X.Enters aL 113:=⟨Tryz.f113,Tryz.func113,by kernel_rfl,by kernel_rfl⟩
theorem en83:Go.X.Enters aL 83:=⟨Tryz.f83,Tryz.func83,by kernel_rfl,by kernel_rfl⟩
theorem en51:Go.X.Enters aL 51:=⟨Tryz.f51,Tryz.func51,by kernel_rfl,by kernel_rfl⟩
theorem en49:Go.X.Enters aL 49:=⟨Tryz.f49,Tryz.func49,by kernel_rfl,by kernel_rfl⟩
theorem en129:Go.X.Enters aL 129:=⟨Tryz.f129,Tryz.func129,by kernel_rfl,by kernel_rfl⟩
theorem en84:Go.X.Enters aL 84:=⟨Tryz.f84,Tryz.func84,by kernel_rfl,by kernel_rfl⟩
theorem en117:Go.X.Enters aL 117:=⟨Tryz.f117,Tryz.func117,by kernel_rfl,by kernel_rfl⟩
theorem en118:Go.X.Enters aL 118:=⟨Tryz.f118,Tryz.func118,by kernel_rfl,by kernel_rfl⟩
theorem en57:Go.X.Enters aL 57:=⟨Tryz.f57,Tryz.func57,by kernel_rfl,by kernel_rfl⟩
theorem en98:Go.X.Enters aL 98:=⟨Tryz.f98,Tryz.func98,by kernel_rfl,by kernel_rfl⟩
theorem en87:Go.X.Enters aL 87:=⟨Tryz.f87,Tryz.func87,by kernel_rfl,by kernel_rfl⟩
theorem en69:Go.X.Enters aL 69:=⟨Tryz.f69,Tryz.func69,by kernel_rfl,by kernel_rfl⟩
theorem en119:Go.X.Enters aL 119:=⟨Tryz.f119,Tryz.func119,by kernel_rfl,by kernel_rfl⟩
theorem en88:Go.X.Enters aL 88:=⟨Tryz.f88,Tryz.func88,by kernel_rfl,by kernel_rfl⟩
theorem en97:Go.X.Enters aL 97:=⟨Tryz.f97,Tryz.func97,by kernel_rfl,by kernel_rfl⟩
theorem en18:Go.X.Enters aL 18:=⟨Tryz.f18,Tryz.func18,by kernel_rfl,by kernel_rfl⟩
theorem en68:Go.X.Enters aL 68:=⟨Tryz.f68,Tryz.func68,by kernel_rfl,by kernel_rfl⟩
theorem en17:Go.X.Enters aL 17:=⟨Tryz.f17,Tryz.func17,by kernel_rfl,by kernel_rfl⟩
theorem en147:Go.X.Enters aL 147:=⟨Tryz.f147,Tryz.func147,by kernel_rfl,by kernel_rfl⟩
theorem en112:Go.X.Enters aL 112:=⟨Tryz.f112,Tryz.func112,by kernel_rfl,by kernel_rfl⟩
theorem en114:Go.X.Enters aL 114:=⟨Tryz.f114,Tryz.func114,by kernel_rfl,by kernel_rfl⟩
theorem en79:Go.X.Enters aL 79:=⟨Tryz.f79,Tryz.func79,by kernel_rfl,by kernel_rfl⟩
theorem en42:Go.X.Enters aL 42:=⟨Tryz.f42,Tryz.func42,by kernel_rfl,by kernel_rfl⟩
theorem en78:Go.X.Enters aL 78:=⟨Tryz.f78,Tryz.func78,by kernel_rfl,by kernel_rfl⟩
theorem en56:Go.X.Enters aL 56:=⟨Tryz.f56,Tryz.func56,by kernel_rfl,by kernel_rfl⟩
theorem en46:Go.X.Enters aL 46:=⟨Tryz.f46,Tryz.func46,by kernel_rfl,by kernel_rfl⟩
theorem en77:Go.X.Enters aL 77:=⟨Tryz.f77,Tryz.func77,by kernel_rfl,by kernel_rfl⟩
theorem en45:Go.X.Enters aL 45:=⟨Tryz.f45,Tryz.func45,by kernel_rfl,by kernel_rfl⟩
theorem en43:Go.X.Enters aL 43:=⟨Tryz.f43,Tryz.func43,by kernel_rfl,by kernel_rfl⟩
theorem en55:Go.X.Enters aL 55:=⟨Tryz.f55,Tryz.func55,by kernel_rfl,by kernel_rfl⟩
theorem en44:Go.X.Enters aL 44:=⟨Tryz.f44,Tryz.func44,by kernel_rfl,by kernel_rfl⟩
theorem en171:Go.X.Enters aL 171:=⟨Tryz.f171,Tryz.func171,by kernel_rfl,by kernel_rfl⟩
theorem en121:Go.X.Enters aL 121:=⟨Tryz.f121,Tryz.func121,by kernel_rfl,by kernel_rfl⟩
theorem en72:Go.X.Enters aL 72:=⟨Tryz.f72,Tryz.func72,by kernel_rfl,by kernel_rfl⟩
theorem en104:Go.X.Enters aL 104:=⟨Tryz.f104,Tryz.func104,by kernel_rfl,by kernel_rfl⟩
theorem en73:Go.X.Enters aL 73:=⟨Tryz.f73,Tryz.func73,by kernel_rfl,by kernel_rfl⟩
theorem en39:Go.X.Enters aL 39:=⟨Tryz.f39,Tryz.func39,by kernel_rfl,by kernel_rfl⟩
theorem en89:Go.X.Enters aL 89:=⟨Tryz.f89,Tryz.func89,by kernel_rfl,by kernel_rfl⟩
theorem en47:Go.X.Enters aL 47:=⟨Tryz.f47,Tryz.func47,by kernel_rfl,by kernel_rfl⟩
theorem en128:Go.X.Enters aL 128:=⟨Tryz.f128,Tryz.func128,by kernel_rfl,by kernel_rfl⟩
theorem en52:Go.X.Enters aL 52:=⟨Tryz.f52,Tryz.func52,by kernel_rfl,by kernel_rfl⟩
theorem en102:Go.X.Enters aL 102:=⟨Tryz.f102,Tryz.func102,by kernel_rfl,by kernel_rfl⟩
theorem en103:Go.X.Enters aL 103:=⟨Tryz.f103,Tryz.func103,by kernel_rfl,by kernel_rfl⟩
theorem en71:Go.X.Enters aL 71:=⟨Tryz.f71,Tryz.func71,by kernel_rfl,by kernel_rfl⟩
theorem en99:Go.X.Enters aL 99:=⟨Tryz.f99,Tryz.func99,by kernel_rfl,by kernel_rfl⟩
theorem en100:Go.X.Enters aL 100:=⟨Tryz.f100,Tryz.func100,by kernel_rfl,by kernel_rfl⟩
theorem en101:Go.X.Enters aL 101:=⟨Tryz.f101,Tryz.func101,by kernel_rfl,by kernel_rfl⟩
theorem en70:Go.X.Enters aL 70:=⟨Tryz.f70,Tryz.func70,by kernel_rfl,by kernel_rfl⟩
theorem en29:Go.X.Enters aL 29:=⟨Tryz.f29,Tryz.func29,by kernel_rfl,by kernel_rfl⟩
theorem en58:Go.X.Enters aL 58:=⟨Tryz.f58,Tryz.func58,by kernel_rfl,by kernel_rfl⟩
theorem en28:Go.X.Enters aL 28:=⟨Tryz.f28,Tryz.func28,by kernel_rfl,by kernel_rfl⟩
theorem en31:Go.X.Enters aL 31:=⟨Tryz.f31,Tryz.func31,by kernel_rfl,by kernel_rfl⟩
theorem en32:Go.X.Enters aL 32:=⟨Tryz.f32,Tryz.func32,by kernel_rfl,by kernel_rfl⟩
theorem en25:Go.X.Enters aL 25:=⟨Tryz.f25,Tryz.func25,by kernel_rfl,by kernel_rfl⟩
theorem en11:Go.X.Enters aL 11:=⟨Tryz.f11,Tryz.func11,by kernel_rfl,by kernel_rfl⟩
theorem en67:Go.X.Enters aL 67:=⟨Tryz.f67,Tryz.func67,by kernel_rfl,by kernel_rfl⟩
theorem en33:Go.X.Enters aL 33:=⟨Tryz.f33,Tryz.func33,by kernel_rfl,by kernel_rfl⟩
theorem en34:Go.X.Enters aL 34:=⟨Tryz.f34,Tryz.func34,by kernel_rfl,by kernel_rfl⟩
theorem en37:Go.X.Enters aL 37:=⟨Tryz.f37,Tryz.func37,by kernel_rfl,by kernel_rfl⟩
theorem en90:Go.X.Enters aL 90:=⟨Tryz.f90,Tryz.func90,by kernel_rfl,by kernel_rfl⟩
theorem en60:Go.X.Enters aL 60:=⟨Tryz.f60,Tryz.func60,by kernel_rfl,by kernel_rfl⟩
theorem en144:Go.X.Enters aL 144:=⟨Tryz.f144,Tryz.func144,by kernel_rfl,by kernel_rfl⟩
theorem en165:Go.X.Enters aL 165:=⟨Tryz.f165,Tryz.func165,by kernel_rfl,by kernel_rfl⟩
theorem en166:Go.X.Enters aL 166:=⟨Tryz.f166,Tryz.func166,by kernel_rfl,by kernel_rfl⟩
theorem en164:Go.X.Enters aL 164:=⟨Tryz.f164,Tryz.func164,by kernel_rfl,by kernel_rfl⟩
theorem en167:Go.X.Enters aL 167:=⟨Tryz.f167,Tryz.func167,by kernel_rfl,by kernel_rfl⟩
theorem en85:Go.X.Enters aL 85:=⟨Tryz.f85,Tryz.func85,by kernel_rfl,by kernel_rfl⟩
theorem en160:Go.X.Enters aL 160:=⟨Tryz.f160,Tryz.func160,by kernel_rfl,by kernel_rfl⟩
theorem en134:Go.X.Enters aL 134:=⟨Tryz.f134,Tryz.func134,by kernel_rfl,by kernel_rfl⟩
theorem en126:Go.X.Enters aL 126:=⟨Tryz.f126,Tryz.func126,by kernel_rfl,by kernel_rfl⟩
theorem en59:Go.X.Enters aL 59:=⟨Tryz.f59,Tryz.func59,by kernel_rfl,by kernel_rfl⟩
theorem en143:Go.X.Enters aL 143:=⟨Tryz.f143,Tryz.func143,by kernel_rfl,by kernel_rfl⟩
theorem en168:Go.X.Enters aL 168:=⟨Tryz.f168,Tryz.func168,by kernel_rfl,by kernel_rfl⟩
theorem en141:Go.X.Enters aL 141:=⟨Tryz.f141,Tryz.func141,by kernel_rfl,by kernel_rfl⟩
theorem en148:Go.X.Enters aL 148:=⟨Tryz.f148,Tryz.func148,by kernel_rfl,by kernel_rfl⟩
theorem en93:Go.X.Enters aL 93:=⟨Tryz.f93,Tryz.func93,by kernel_rfl,by kernel_rfl⟩
theorem en92:Go.X.Enters aL 92:=⟨Tryz.f92,Tryz.func92,by kernel_rfl,by kernel_rfl⟩
theorem en136:Go.X.Enters aL 136:=⟨Tryz.f136,Tryz.func136,by kernel_rfl,by kernel_rfl⟩
theorem en161:Go.X.Enters aL 161:=⟨Tryz.f161,Tryz.func161,by kernel_rfl,by kernel_rfl⟩
theorem en169:Go.X.Enters aL 169:=⟨Tryz.f169,Tryz.func169,by kernel_rfl,by kernel_rfl⟩
theorem en48:Go.X.Enters aL 48:=⟨Tryz.f48,Tryz.func48,by kernel_rfl,by kernel_rfl⟩
theorem FZ:Go.X.Enters aL 127:=⟨Tryz.f127,Tryz.func127,by kernel_rfl,by kernel_rfl⟩
theorem EP:Go.X.Enters aL 123:=⟨Tryz.f123,Tryz.func123,by kernel_rfl,by kernel_rfl⟩
theorem Nc:Go.X.Enters aL 135:=⟨Tryz.f135,Tryz.func135,by kernel_rfl,by kernel_rfl⟩
theorem Kv:Go.X.Enters aL 145:=⟨Tryz.f145,Tryz.func145,by kernel_rfl,by kernel_rfl⟩
theorem HB:Go.X.Enters aL 94:=⟨Tryz.f94,Tryz.func94,by kernel_rfl,by kernel_rfl⟩
theorem Nz:Go.X.Enters aL 149:=⟨Tryz.f149,Tryz.func149,by kernel_rfl,by kernel_rfl⟩
theorem Oi:Go.X.Enters aL 120:=⟨Tryz.f120,Tryz.func120,by kernel_rfl,by kernel_rfl⟩
theorem en96:Go.X.Enters aL 96:=⟨Tryz.f96,Tryz.func96,by kernel_rfl,by kernel_rfl⟩
theorem en91:Go.X.Enters aL 91:=⟨Tryz.f91,Tryz.func91,by kernel_rfl,by kernel_rfl⟩
theorem en63:Go.X.Enters aL 63:=⟨Tryz.f63,Tryz.func63,by kernel_rfl,by kernel_rfl⟩
theorem en64:Go.X.Enters aL 64:=⟨Tryz.f64,Tryz.func64,by kernel_rfl,by kernel_rfl⟩
theorem L4:Go.X.Enters aL 156:=⟨Tryz.f156,Tryz.func156,by kernel_rfl,by kernel_rfl⟩
theorem Py:Go.X.Enters aL 157:=⟨Tryz.f157,Tryz.func157,by kernel_rfl,by kernel_rfl⟩
theorem en124:Go.X.Enters aL 124:=⟨Tryz.f124,Tryz.func124,by kernel_rfl,by kernel_rfl⟩
theorem en125:Go.X.Enters aL 125:=⟨Tryz.f125,Tryz.func125,by kernel_rfl,by kernel_rfl⟩
theorem en95:Go.X.Enters aL 95:=⟨Tryz.f95,Tryz.func95,by kernel_rfl,by kernel_rfl⟩
theorem en65:Go.X.Enters aL 65:=⟨Tryz.f65,Tryz.func65,by kernel_rfl,by kernel_rfl⟩
theorem en66:Go.X.Enters aL 66:=⟨Tryz.f66,Tryz.func66,by kernel_rfl,by kernel_rfl⟩
theorem KT:Go.X.Enters aL 133:=⟨Tryz.f133,Tryz.func133,by kernel_rfl,by kernel_rfl⟩
theorem en130:Go.X.Enters aL 130:=⟨Tryz.f130,Tryz.func130,by kernel_rfl,by kernel_rfl⟩
theorem en105:Go.X.Enters aL 105:=⟨Tryz.f105,Tryz.func105,by kernel_rfl,by kernel_rfl⟩
theorem en107:Go.X.Enters aL 107:=⟨Tryz.f107,Tryz.func107,by kernel_rfl,by kernel_rfl⟩
theorem en109:Go.X.Enters aL 109:=⟨Tryz.f109,Tryz.func109,by kernel_rfl,by kernel_rfl⟩
theorem en159:Go.X.Enters aL 159:=⟨Tryz.f159,Tryz.func159,by kernel_rfl,by kernel_rfl⟩
theorem en132:Go.X.Enters aL 132:=⟨Tryz.f132,Tryz.func132,by kernel_rfl,by kernel_rfl⟩
theorem en74:Go.X.Enters aL 74:=⟨Tryz.f74,Tryz.func74,by kernel_rfl,by kernel_rfl⟩
theorem en62:Go.X.Enters aL 62:=⟨Tryz.f62,Tryz.func62,by kernel_rfl,by kernel_rfl⟩
theorem en140:Go.X.Enters aL 140:=⟨Tryz.f140,Tryz.func140,by kernel_rfl,by kernel_rfl⟩
theorem en162:Go.X.Enters aL 162:=⟨Tryz.f162,Tryz.func162,by kernel_rfl,by kernel_rfl⟩
theorem en163:Go.X.Enters aL 163:=⟨Tryz.f163,Tryz.func163,by kernel_rfl,by kernel_rfl⟩
theorem en138:Go.X.Enters aL 138:=⟨Tryz.f138,Tryz.func138,by kernel_rfl,by kernel_rfl⟩
theorem en137:Go.X.Enters aL 137:=⟨Tryz.f137,Tryz.func137,by kernel_rfl,by kernel_rfl⟩
theorem en170:Go.X.Enters aL 170:=⟨Tryz.f170,Tryz.func170,by kernel_rfl,by kernel_rfl⟩
theorem en142:Go.X.Enters aL 142:=⟨Tryz.f142,Tryz.func142,by kernel_rfl,by kernel_rfl⟩
theorem en139:Go.X.Enters aL 139:=⟨Tryz.f139,Tryz.func139,by kernel_rfl,by kernel_rfl⟩
theorem en108:Go.X.Enters aL 108:=⟨Tryz.f108,Tryz.func108,by kernel_rfl,by kernel_rfl⟩
theorem en75:Go.X.Enters aL 75:=⟨Tryz.f75,Tryz.func75,by kernel_rfl,by kernel_rfl⟩
theorem en40:Go.X.Enters aL 40:=⟨Tryz.f40,Tryz.func40,by kernel_rfl,by kernel_rfl⟩
theorem en36:Go.X.Enters aL 36:=⟨Tryz.f36,Tryz.func36,by kernel_rfl,by kernel_rfl⟩
theorem en61:Go.X.Enters aL 61:=⟨Tryz.f61,Tryz.func61,by kernel_rfl,by kernel_rfl⟩
theorem en30:Go.X.Enters aL 30:=⟨Tryz.f30,Tryz.func30,by kernel_rfl,by kernel_rfl⟩
theorem en41:Go.X.Enters aL 41:=⟨Tryz.f41,Tryz.func41,by kernel_rfl,by kernel_rfl⟩
theorem en15:Go.X.Enters aL 15:=⟨Tryz.f15,Tryz.func15,by kernel_rfl,by kernel_rfl⟩
theorem en35:Go.X.Enters aL 35:=⟨Tryz.f35,Tryz.func35,by kernel_rfl,by kernel_rfl⟩
theorem en16:Go.X.Enters aL 16:=⟨Tryz.f16,Tryz.func16,by kernel_rfl,by kernel_rfl⟩
theorem en12:Go.X.Enters aL 12:=⟨Tryz.f12,Tryz.func12,by kernel_rfl,by kernel_rfl⟩
theorem en10:Go.X.Enters aL 10:=⟨Tryz.f10,Tryz.func10,by kernel_rfl,by kernel_rfl⟩
theorem en9:Go.X.Enters aL 9:=⟨Tryz.f9,Tryz.func9,by kernel_rfl,by kernel_rfl⟩
theorem JP:ml aL 9 (λx:List UInt8=>Value.string (s8 x)):=ml.str Tryz.underlying9
def tb:List (dZ aL):=[⟨32,_,_,_,_,Tryz.underlying32,ti32⟩,⟨3,_,_,_,_,Tryz.underlying3,ti3⟩,⟨51,_,_,_,_,Tryz.underlying51,ti51⟩,⟨30,_,_,_,_,Tryz.underlying30,ti30⟩,⟨126,_,_,_,_,Tryz.underlying126,ti126⟩,⟨102,_,_,_,_,Tryz.underlying102,ti102⟩,⟨84,_,_,_,_,Tryz.underlying84,ti84⟩,⟨72,_,_,_,_,Tryz.underlying72,ti72⟩,⟨2,_,_,_,_,Tryz.underlying2,ti2⟩,⟨88,_,_,_,_,Tryz.underlying88,ti88⟩,⟨22,_,_,_,_,Tryz.underlying22,ti22⟩,⟨4,_,_,_,_,Tryz.underlying4,ti4⟩,⟨105,_,_,_,_,Tryz.underlying105,ti105⟩,⟨42,_,_,_,_,Tryz.underlying42,ti42⟩,⟨86,_,_,_,_,Tryz.underlying86,ti86⟩,⟨75,_,_,_,_,Tryz.underlying75,ti75⟩,⟨38,_,_,_,_,Tryz.underlying38,ti38⟩,⟨87,_,_,_,_,Tryz.underlying87,ti87⟩,⟨40,_,_,_,_,Tryz.underlying40,ti40⟩,⟨55,_,_,_,_,Tryz.underlying55,ti55⟩,⟨66,_,_,_,_,Tryz.underlying66,ti66⟩,⟨71,_,_,_,_,Tryz.underlying71,ti71⟩,⟨123,_,_,_,_,Tryz.underlying123,ti123⟩,⟨63,_,_,_,_,Tryz.underlying63,ti63⟩,⟨137,_,_,_,_,Tryz.underlying137,ti137⟩,⟨178,_,_,_,_,Tryz.underlying178,ti178⟩,⟨103,_,_,_,_,Tryz.underlying103,MV⟩,⟨47,_,_,_,_,Tryz.underlying47,ti47⟩,⟨64,_,_,_,_,Tryz.underlying64,ti64⟩,⟨170,_,_,_,_,Tryz.underlying170,zO⟩,⟨158,_,_,_,_,Tryz.underlying158,ti158⟩,⟨139,_,_,_,_,Tryz.underlying139,ti139⟩,⟨9,_,_,_,_,Tryz.underlying9,ti9⟩,⟨211,_,_,_,_,Tryz.underlying211,ti211⟩,⟨5,_,_,_,_,Tryz.underlying5,ti5⟩,⟨112,_,_,_,_,Tryz.underlying112,ti112⟩,⟨124,_,_,_,_,Tryz.underlying124,ti124⟩]
instance:aO aE:=⟨λκ x=>[.v (Value.bool x.bR),.ro bM κ x.aR],
 λh=>by obtain⟨v0,h0,k0,-⟩:=VH h;exact⟨_,_,h0,⟨rfl,rfl⟩,_,_,rfl,k0,rfl⟩,
 λh=>by obtain⟨_,_,rfl,⟨rfl,_⟩,v0,_,rfl,k0,rfl⟩:=h;exact SH ⟨v0,rfl,k0,trivial⟩⟩
instance:aO cK:=⟨λκ x=>[.v (Value.int .i64 x.Linear.Const),.ro jo κ x.Linear.bG,.v (Value.bool x.eP)],
 λh=>by obtain⟨v0,h0,k0,-⟩:=Rx h;exact⟨_,_,h0,⟨rfl,rfl⟩,_,_,rfl,k0,_,_,rfl,⟨rfl,rfl⟩,rfl⟩,
 λh=>by obtain⟨_,_,rfl,⟨rfl,_⟩,v0,_,rfl,k0,_,_,rfl,⟨rfl,_⟩,rfl⟩:=h;exact RT ⟨v0,rfl,k0,trivial⟩⟩
instance:aO oX:=⟨λκ x=>[.v (Value.int .i64 x.Const),.ro jo κ x.bG],
 λh=>by obtain⟨v0,h0,k0,-⟩:=Sh h;exact⟨_,_,h0,⟨rfl,rfl⟩,_,_,rfl,k0,rfl⟩,
 λh=>by obtain⟨_,_,rfl,⟨rfl,_⟩,v0,_,rfl,k0,rfl⟩:=h;exact RP ⟨v0,rfl,k0,trivial⟩⟩
instance:aO jo:=⟨λκ x=>[.v (Value.int .i64 x.Var),.v (Value.int .i64 x.N)],
 λh=>by obtain⟨h0,-⟩:=VG h;exact⟨_,_,h0,⟨rfl,rfl⟩,_,_,rfl,⟨rfl,rfl⟩,rfl⟩,
 λh=>by obtain⟨_,_,rfl,⟨rfl,_⟩,_,_,rfl,⟨rfl,_⟩,rfl⟩:=h;exact Uy ⟨rfl,trivial⟩⟩
instance:aO aT:=⟨λκ x=>[.ro aE κ x.bG,.v (Value.bool x.dS.bR),.ro bM κ x.dS.aR],
 λh=>by obtain⟨v0,v1,h0,k0,k1,-⟩:=Sf h;exact⟨_,_,h0,k0,_,_,rfl,⟨rfl,rfl⟩,_,_,rfl,k1,rfl⟩,
 λh=>by obtain⟨v0,_,rfl,k0,_,_,rfl,⟨rfl,_⟩,v1,_,rfl,k1,rfl⟩:=h;exact Xo ⟨v0,v1,rfl,k0,k1,trivial⟩⟩
instance:aO bF:=⟨λκ x=>[.ro eT κ x.Uses,.v (Value.bool x.gT.bR),.ro bM κ x.gT.aR],
 λh=>by obtain⟨v0,v1,h0,k0,k1,-⟩:=SK h;exact⟨_,_,h0,k0,_,_,rfl,⟨rfl,rfl⟩,_,_,rfl,k1,rfl⟩,
 λh=>by obtain⟨v0,_,rfl,k0,_,_,rfl,⟨rfl,_⟩,v1,_,rfl,k1,rfl⟩:=h;exact T8 ⟨v0,v1,rfl,k0,k1,trivial⟩⟩
instance:aO eT:=⟨λκ x=>[.v (Value.int .i64 x.Index),.v (Value.bool x.N.bR),.ro bM κ x.N.aR],
 λh=>by obtain⟨v0,h0,k0,-⟩:=TG h;exact⟨_,_,h0,⟨rfl,rfl⟩,_,_,rfl,⟨rfl,rfl⟩,_,_,rfl,k0,rfl⟩,
 λh=>by obtain⟨_,_,rfl,⟨rfl,_⟩,_,_,rfl,⟨rfl,_⟩,v0,_,rfl,k0,rfl⟩:=h;exact QE ⟨v0,rfl,k0,trivial⟩⟩
instance:aO jR:=⟨λκ x=>[.ro bF κ x.Steps,.ro aE κ x.Form,.v (Value.bool x.dS.bR),.ro bM κ x.dS.aR,.ro jR κ x.nA],
 λh=>by obtain⟨v0,v1,v2,v3,h0,k0,k1,k2,k3,-⟩:=Ru h;exact⟨_,_,h0,k0,_,_,rfl,k1,_,_,rfl,⟨rfl,rfl⟩,_,_,rfl,k2,_,_,rfl,k3,rfl⟩,
 λh=>by obtain⟨v0,_,rfl,k0,v1,_,rfl,k1,_,_,rfl,⟨rfl,_⟩,v2,_,rfl,k2,v3,_,rfl,k3,rfl⟩:=h;exact W6 ⟨v0,v1,v2,v3,rfl,k0,k1,k2,k3,trivial⟩⟩
instance:aO aP:=⟨λκ x=>[.v (Value.int .i64 x.pos),.ro aE κ x.g],
 λh=>by obtain⟨v0,h0,k0,-⟩:=RU h;exact⟨_,_,h0,⟨rfl,rfl⟩,_,_,rfl,k0,rfl⟩,
 λh=>by obtain⟨_,_,rfl,⟨rfl,_⟩,v0,_,rfl,k0,rfl⟩:=h;exact R9 ⟨v0,rfl,k0,trivial⟩⟩
instance:aO bH:=⟨λκ x=>[.v (Value.int .i64 x.v),.ro aY κ x.aB,.v (Value.bool x.dT)],
 λh=>by obtain⟨v0,h0,k0,-⟩:=Wc h;exact⟨_,_,h0,⟨rfl,rfl⟩,_,_,rfl,k0,_,_,rfl,⟨rfl,rfl⟩,rfl⟩,
 λh=>by obtain⟨_,_,rfl,⟨rfl,_⟩,v0,_,rfl,k0,_,_,rfl,⟨rfl,_⟩,rfl⟩:=h;exact S7 ⟨v0,rfl,k0,trivial⟩⟩
instance:aO gk:=⟨λκ x=>[.v (Value.int .i64 x.kind),.ro aE κ x.x,.ro bF κ x.proof.Steps,.ro aE κ x.proof.Form,.v (Value.bool x.proof.dS.bR),.ro bM κ x.proof.dS.aR,.ro jR κ x.proof.nA,.v (Value.int .i64 x.v)],
 λh=>by obtain⟨v0,v1,v2,v3,v4,h0,k0,k1,k2,k3,k4,-⟩:=Tz h;exact⟨_,_,h0,⟨rfl,rfl⟩,_,_,rfl,k0,_,_,rfl,k1,_,_,rfl,k2,_,_,rfl,⟨rfl,rfl⟩,_,_,rfl,k3,_,_,rfl,k4,_,_,rfl,⟨rfl,rfl⟩,rfl⟩,
 λh=>by obtain⟨_,_,rfl,⟨rfl,_⟩,v0,_,rfl,k0,v1,_,rfl,k1,v2,_,rfl,k2,_,_,rfl,⟨rfl,_⟩,v3,_,rfl,k3,v4,_,rfl,k4,_,_,rfl,⟨rfl,_⟩,rfl⟩:=h;exact TS ⟨v0,v1,v2,v3,v4,rfl,k0,k1,k2,k3,k4,trivial⟩⟩
instance:aO kB:=⟨λκ x=>[.v (Value.int .i64 x.up.pos),.ro aE κ x.up.g,.v (Value.bool x.low.bR),.ro bM κ x.low.aR,.v (Value.bool x.high.bR),.ro bM κ x.high.aR],
 λh=>by obtain⟨v0,v1,v2,h0,k0,k1,k2,-⟩:=Vm h;exact⟨_,_,h0,⟨rfl,rfl⟩,_,_,rfl,k0,_,_,rfl,⟨rfl,rfl⟩,_,_,rfl,k1,_,_,rfl,⟨rfl,rfl⟩,_,_,rfl,k2,rfl⟩,
 λh=>by obtain⟨_,_,rfl,⟨rfl,_⟩,v0,_,rfl,k0,_,_,rfl,⟨rfl,_⟩,v1,_,rfl,k1,_,_,rfl,⟨rfl,_⟩,v2,_,rfl,k2,rfl⟩:=h;exact TR ⟨v0,v1,v2,rfl,k0,k1,k2,trivial⟩⟩
abbrev zR(s:aS):List Lf:=[(lI .i64 s.n),(.ro aT false s.aA),(.ro bF false s.aV),(.ro bN false s.u),(.ro aY false s.aM),(.ro aE false s.value),(.ro aP false s.aB),(.ro bH false s.aK)]
abbrev iM(s:aS):List Lf:=[(lI .i64 s.n),.ap 1 aT false s.aA,.ap 2 bF false s.aV,.own 3,.own 4,.own 5,.own 6,.ap 7 bH false s.aK]
abbrev jv(s:aS):List Lf:=[(lI .i64 s.n),.ap 8 aT false s.aA,.ap 9 bF false s.aV,.own 10,.own 11,.own 12,.own 13,.ap 14 bH false s.aK]
abbrev zF(s:aS):List Ob:=[.box (iM s),.aN aT false s.aA,.aN bF false s.aV,.row bN false s.u,.row aY true s.aM,.row aE false s.value,.row aP false s.aB,.aN bH false s.aK]
abbrev uK(s:aS):List (Nat×Option Ob):=[(0,some (.box (iM s))),(1,some (.aN aT false s.aA)),(2,some (.aN bF false s.aV)),(3,some (.row bN false s.u)),(4,some (.row aY true s.aM)),(5,some (.row aE false s.value)),(6,some (.row aP false s.aB)),(7,some (.aN bH false s.aK))]
abbrev zG(s:aS):List Ob:=[.box [(lI .i64 s.n),.ap 1 aT false s.aA,.ap 2 bF false s.aV,.own 3,.own 4,.own 5,.own 6,.own 7],.aN aT false s.aA,.aN bF false s.aV,.row bN false s.u,.row aY true s.aM,.row aE false s.value,.row aP false s.aB,.row bH false s.aK]
abbrev zGP(s:aS):List (Nat×Option Ob):=[(0,some (.box [(lI .i64 s.n),.ap 1 aT false s.aA,.ap 2 bF false s.aV,.own 3,.own 4,.own 5,.own 6,.own 7])),(1,some (.aN aT false s.aA)),(2,some (.aN bF false s.aV)),(3,some (.row bN false s.u)),(4,some (.row aY true s.aM)),(5,some (.row aE false s.value)),(6,some (.row aP false s.aB)),(7,some (.row bH false s.aK))]
end Go.Proofs.YtipdkfmhfakbnaaGreatDoor.TB
