/- Types, and how data lies in cells. Written by a program of mine (wip/tool). -/
import Derived.Test.YtcakdidcpoolcaaGreatDoorProg
import Derived.Test.YtcakdidcpoolcaaGreatDoorRows
import Derived.Test.YtcakdidcpoolcaaGreatDoorAc
import Derived.Test.YtcakdidcpoolcaaGreatDoorAd
set_option linter.unusedVariables false
set_option linter.unusedSimpArgs false
set_option linter.unusedSectionVars false
set_option maxRecDepth 100000
set_option maxHeartbeats 4000000
namespace Go.Proofs.YtcakdidcpoolcaaGreatDoor.TB
open Go Go.RowKit Go.X Go.Q Go.D
theorem mixed:Tryz.prog.follows .mixedOrders=true:=by kernel_rfl
theorem ti3:TI Tryz.prog 3 1 8 (Value.int .i64 0):=TI.mk (by kernel_rfl)
theorem ti57:TI Tryz.prog 57 2 32 (Value.agg #[(Value.bool false),(Value.slice none 0 0)]):=TI.mk (by kernel_rfl)
theorem ti55:TI Tryz.prog 55 1 24 (Value.slice none 0 0):=TI.mk (by kernel_rfl)
theorem ti23:TI Tryz.prog 23 1 24 (Value.slice none 0 0):=TI.mk (by kernel_rfl)
theorem ti2:TI Tryz.prog 2 1 8 (Value.int .i64 0):=TI.mk (by kernel_rfl)
theorem ti177:TI Tryz.prog 177 1 4 (Value.int .u32 0):=TI.mk (by kernel_rfl)
theorem ti29:TI Tryz.prog 29 7 168 (Value.agg #[(Value.slice none 0 0),(Value.slice none 0 0),(Value.slice none 0 0),(Value.slice none 0 0),(Value.slice none 0 0),(Value.slice none 0 0),(Value.slice none 0 0)]):=TI.mk (by kernel_rfl)
theorem ti27:TI Tryz.prog 27 1 24 (Value.slice none 0 0):=TI.mk (by kernel_rfl)
theorem ti9:TI Tryz.prog 9 1 16 (Value.string ⟨#[]⟩):=TI.mk (by kernel_rfl)
theorem ti149:TI Tryz.prog 149 1 8 (Value.int .u64 0):=TI.mk (by kernel_rfl)
theorem ti88:TI Tryz.prog 88 1 24 (Value.slice none 0 0):=TI.mk (by kernel_rfl)
theorem ti26:TI Tryz.prog 26 1 24 (Value.slice none 0 0):=TI.mk (by kernel_rfl)
theorem ti22:TI Tryz.prog 22 1 24 (Value.slice none 0 0):=TI.mk (by kernel_rfl)
theorem ti4:TI Tryz.prog 4 1 1 (Value.bool false):=TI.mk (by kernel_rfl)
theorem ti51:TI Tryz.prog 51 1 24 (Value.slice none 0 0):=TI.mk (by kernel_rfl)
theorem ti123:TI Tryz.prog 123 3 56 (Value.agg #[(Value.slice none 0 0),(Value.bool false),(Value.slice none 0 0)]):=TI.mk (by kernel_rfl)
theorem ti73:TI Tryz.prog 73 9 152 (Value.agg #[(Value.int .i64 0),(Value.int .i64 0),(Value.int .i64 0),(Value.slice none 0 0),(Value.slice none 0 0),(Value.bool false),(Value.slice none 0 0),(Value.slice none 0 0),(Value.slice none 0 0)]):=TI.mk (by kernel_rfl)
theorem ti90:TI Tryz.prog 90 2 32 (Value.agg #[(Value.int .i64 0),(Value.slice none 0 0)]):=TI.mk (by kernel_rfl)
theorem ti184:TI Tryz.prog 184 1 24 (Value.slice none 0 0):=TI.mk (by kernel_rfl)
theorem ti112:TI Tryz.prog 112 4 40 (Value.agg #[(Value.int .i64 0),(Value.int .i64 0),(Value.bool false),(Value.string ⟨#[]⟩)]):=TI.mk (by kernel_rfl)
theorem ti65:TI Tryz.prog 65 1 24 (Value.slice none 0 0):=TI.mk (by kernel_rfl)
theorem ti70:TI Tryz.prog 70 5 104 (Value.agg #[(Value.slice none 0 0),(Value.slice none 0 0),(Value.bool false),(Value.slice none 0 0),(Value.slice none 0 0)]):=TI.mk (by kernel_rfl)
theorem ti54:TI Tryz.prog 54 2 16 (Value.agg #[(Value.int .i64 0),(Value.int .i64 0)]):=TI.mk (by kernel_rfl)
theorem ti87:TI Tryz.prog 87 2 16 (Value.agg #[(Value.int .i64 0),(Value.int .i64 0)]):=TI.mk (by kernel_rfl)
theorem ti63:TI Tryz.prog 63 1 24 (Value.slice none 0 0):=TI.mk (by kernel_rfl)
theorem ti25:TI Tryz.prog 25 1 24 (Value.slice none 0 0):=TI.mk (by kernel_rfl)
theorem ti83:TI Tryz.prog 83 5 40 (Value.agg #[(Value.int .i64 0),(Value.int .i64 0),(Value.int .i64 0),(Value.int .i64 0),(Value.bool false)]):=TI.mk (by kernel_rfl)
theorem ti41:TI Tryz.prog 41 5 120 (Value.agg #[(Value.slice none 0 0),(Value.slice none 0 0),(Value.slice none 0 0),(Value.slice none 0 0),(Value.slice none 0 0)]):=TI.mk (by kernel_rfl)
theorem ti188:TI Tryz.prog 188 5 88 (Value.agg #[(Value.int .i64 0),(Value.int .i64 0),(Value.slice none 0 0),(Value.slice none 0 0),(Value.slice none 0 0)]):=TI.mk (by kernel_rfl)
theorem ti92:TI Tryz.prog 92 3 40 (Value.agg #[(Value.int .i64 0),(Value.slice none 0 0),(Value.bool false)]):=TI.mk (by kernel_rfl)
theorem ti24:TI Tryz.prog 24 1 24 (Value.slice none 0 0):=TI.mk (by kernel_rfl)
theorem ti68:TI Tryz.prog 68 1 24 (Value.slice none 0 0):=TI.mk (by kernel_rfl)
theorem ti104:TI Tryz.prog 104 4 48 (Value.agg #[(Value.int .i64 0),(Value.slice none 0 0),(Value.int .i64 0),(Value.int .i64 0)]):=TI.mk (by kernel_rfl)
theorem ti71:TI Tryz.prog 71 1 24 (Value.slice none 0 0):=TI.mk (by kernel_rfl)
theorem ti97:TI Tryz.prog 97 3 56 (Value.agg #[(Value.slice none 0 0),(Value.bool false),(Value.slice none 0 0)]):=TI.mk (by kernel_rfl)
theorem ti67:TI Tryz.prog 67 1 24 (Value.slice none 0 0):=TI.mk (by kernel_rfl)
theorem ti95:TI Tryz.prog 95 1 24 (Value.slice none 0 0):=TI.mk (by kernel_rfl)
theorem ti5:TI Tryz.prog 5 1 1 (Value.int .u8 0):=TI.mk (by kernel_rfl)
theorem ti94:TI Tryz.prog 94 3 40 (Value.agg #[(Value.int .i64 0),(Value.bool false),(Value.slice none 0 0)]):=TI.mk (by kernel_rfl)
theorem ti190:TI Tryz.prog 190 1 24 (Value.slice none 0 0):=TI.mk (by kernel_rfl)
theorem ti133:TI Tryz.prog 133 1 24 (Value.slice none 0 0):=TI.mk (by kernel_rfl)
theorem ti229:TI Tryz.prog 229 4 64 (Value.agg #[(Value.slice none 0 0),(Value.int .i64 0),(Value.slice none 0 0),(Value.map none)]):=TI.mk (by kernel_rfl)
theorem ti33:TI Tryz.prog 33 10 240 (Value.agg #[(Value.slice none 0 0),(Value.slice none 0 0),(Value.slice none 0 0),(Value.slice none 0 0),(Value.slice none 0 0),(Value.slice none 0 0),(Value.slice none 0 0),(Value.slice none 0 0),(Value.slice none 0 0),(Value.slice none 0 0)]):=TI.mk (by kernel_rfl)
theorem ti59:TI Tryz.prog 59 1 24 (Value.slice none 0 0):=TI.mk (by kernel_rfl)
theorem ti227:TI Tryz.prog 227 1 8 (Value.map none):=TI.mk (by kernel_rfl)
theorem ti110:TI Tryz.prog 110 1 8 (Value.map none):=TI.mk (by kernel_rfl)
theorem ti21:TI Tryz.prog 21 1 4 (Value.int .i32 0):=TI.mk (by kernel_rfl)
theorem ti135:TI Tryz.prog 135 2 32 (Value.agg #[(Value.pointer none),(Value.slice none 0 0)]):=TI.mk (by kernel_rfl)
theorem ti220:TI Tryz.prog 220 1 8 (Value.int .u64 0):=TI.mk (by kernel_rfl)
theorem ti31:TI Tryz.prog 31 1 24 (Value.slice none 0 0):=TI.mk (by kernel_rfl)
theorem en192:Go.X.Enters Tryz.prog 192:=⟨Tryz.f192,Tryz.func192,by kernel_rfl,by kernel_rfl⟩
theorem en186:Go.X.Enters Tryz.prog 186:=⟨Tryz.f186,Tryz.func186,by kernel_rfl,by kernel_rfl⟩
theorem en187:Go.X.Enters Tryz.prog 187:=⟨Tryz.f187,Tryz.func187,by kernel_rfl,by kernel_rfl⟩
theorem en175:Go.X.Enters Tryz.prog 175:=⟨Tryz.f175,Tryz.func175,by kernel_rfl,by kernel_rfl⟩
theorem en160:Go.X.Enters Tryz.prog 160:=⟨Tryz.f160,Tryz.func160,by kernel_rfl,by kernel_rfl⟩
theorem en171:Go.X.Enters Tryz.prog 171:=⟨Tryz.f171,Tryz.func171,by kernel_rfl,by kernel_rfl⟩
theorem en170:Go.X.Enters Tryz.prog 170:=⟨Tryz.f170,Tryz.func170,by kernel_rfl,by kernel_rfl⟩
theorem en172:Go.X.Enters Tryz.prog 172:=⟨Tryz.f172,Tryz.func172,by kernel_rfl,by kernel_rfl⟩
theorem en173:Go.X.Enters Tryz.prog 173:=⟨Tryz.f173,Tryz.func173,by kernel_rfl,by kernel_rfl⟩
theorem en188:Go.X.Enters Tryz.prog 188:=⟨Tryz.f188,Tryz.func188,by kernel_rfl,by kernel_rfl⟩
theorem en110:Go.X.Enters Tryz.prog 110:=⟨Tryz.f110,Tryz.func110,by kernel_rfl,by kernel_rfl⟩
theorem en80:Go.X.Enters Tryz.prog 80:=⟨Tryz.f80,Tryz.func80,by kernel_rfl,by kernel_rfl⟩
theorem en52:Go.X.Enters Tryz.prog 52:=⟨Tryz.f52,Tryz.func52,by kernel_rfl,by kernel_rfl⟩
theorem en174:Go.X.Enters Tryz.prog 174:=⟨Tryz.f174,Tryz.func174,by kernel_rfl,by kernel_rfl⟩
theorem en135:Go.X.Enters Tryz.prog 135:=⟨Tryz.f135,Tryz.func135,by kernel_rfl,by kernel_rfl⟩
theorem en159:Go.X.Enters Tryz.prog 159:=⟨Tryz.f159,Tryz.func159,by kernel_rfl,by kernel_rfl⟩
theorem en154:Go.X.Enters Tryz.prog 154:=⟨Tryz.f154,Tryz.func154,by kernel_rfl,by kernel_rfl⟩
theorem en134:Go.X.Enters Tryz.prog 134:=⟨Tryz.f134,Tryz.func134,by kernel_rfl,by kernel_rfl⟩
theorem en155:Go.X.Enters Tryz.prog 155:=⟨Tryz.f155,Tryz.func155,by kernel_rfl,by kernel_rfl⟩
theorem en133:Go.X.Enters Tryz.prog 133:=⟨Tryz.f133,Tryz.func133,by kernel_rfl,by kernel_rfl⟩
theorem en156:Go.X.Enters Tryz.prog 156:=⟨Tryz.f156,Tryz.func156,by kernel_rfl,by kernel_rfl⟩
theorem en157:Go.X.Enters Tryz.prog 157:=⟨Tryz.f157,Tryz.func157,by kernel_rfl,by kernel_rfl⟩
theorem en137:Go.X.Enters Tryz.prog 137:=⟨Tryz.f137,Tryz.func137,by kernel_rfl,by kernel_rfl⟩
theorem en132:Go.X.Enters Tryz.prog 132:=⟨Tryz.f132,Tryz.func132,by kernel_rfl,by kernel_rfl⟩
theorem en138:Go.X.Enters Tryz.prog 138:=⟨Tryz.f138,Tryz.func138,by kernel_rfl,by kernel_rfl⟩
theorem en94:Go.X.Enters Tryz.prog 94:=⟨Tryz.f94,Tryz.func94,by kernel_rfl,by kernel_rfl⟩
theorem en128:Go.X.Enters Tryz.prog 128:=⟨Tryz.f128,Tryz.func128,by kernel_rfl,by kernel_rfl⟩
theorem en158:Go.X.Enters Tryz.prog 158:=⟨Tryz.f158,Tryz.func158,by kernel_rfl,by kernel_rfl⟩
theorem en130:Go.X.Enters Tryz.prog 130:=⟨Tryz.f130,Tryz.func130,by kernel_rfl,by kernel_rfl⟩
theorem en153:Go.X.Enters Tryz.prog 153:=⟨Tryz.f153,Tryz.func153,by kernel_rfl,by kernel_rfl⟩
theorem en127:Go.X.Enters Tryz.prog 127:=⟨Tryz.f127,Tryz.func127,by kernel_rfl,by kernel_rfl⟩
theorem en129:Go.X.Enters Tryz.prog 129:=⟨Tryz.f129,Tryz.func129,by kernel_rfl,by kernel_rfl⟩
theorem en131:Go.X.Enters Tryz.prog 131:=⟨Tryz.f131,Tryz.func131,by kernel_rfl,by kernel_rfl⟩
theorem en93:Go.X.Enters Tryz.prog 93:=⟨Tryz.f93,Tryz.func93,by kernel_rfl,by kernel_rfl⟩
theorem en65:Go.X.Enters Tryz.prog 65:=⟨Tryz.f65,Tryz.func65,by kernel_rfl,by kernel_rfl⟩
theorem en145:Go.X.Enters Tryz.prog 145:=⟨Tryz.f145,Tryz.func145,by kernel_rfl,by kernel_rfl⟩
theorem en146:Go.X.Enters Tryz.prog 146:=⟨Tryz.f146,Tryz.func146,by kernel_rfl,by kernel_rfl⟩
theorem en119:Go.X.Enters Tryz.prog 119:=⟨Tryz.f119,Tryz.func119,by kernel_rfl,by kernel_rfl⟩
theorem en90:Go.X.Enters Tryz.prog 90:=⟨Tryz.f90,Tryz.func90,by kernel_rfl,by kernel_rfl⟩
theorem en120:Go.X.Enters Tryz.prog 120:=⟨Tryz.f120,Tryz.func120,by kernel_rfl,by kernel_rfl⟩
theorem en91:Go.X.Enters Tryz.prog 91:=⟨Tryz.f91,Tryz.func91,by kernel_rfl,by kernel_rfl⟩
theorem en195:Go.X.Enters Tryz.prog 195:=⟨Tryz.f195,Tryz.func195,by kernel_rfl,by kernel_rfl⟩
theorem en184:Go.X.Enters Tryz.prog 184:=⟨Tryz.f184,Tryz.func184,by kernel_rfl,by kernel_rfl⟩
theorem en183:Go.X.Enters Tryz.prog 183:=⟨Tryz.f183,Tryz.func183,by kernel_rfl,by kernel_rfl⟩
theorem en181:Go.X.Enters Tryz.prog 181:=⟨Tryz.f181,Tryz.func181,by kernel_rfl,by kernel_rfl⟩
theorem en182:Go.X.Enters Tryz.prog 182:=⟨Tryz.f182,Tryz.func182,by kernel_rfl,by kernel_rfl⟩
theorem en165:Go.X.Enters Tryz.prog 165:=⟨Tryz.f165,Tryz.func165,by kernel_rfl,by kernel_rfl⟩
theorem en166:Go.X.Enters Tryz.prog 166:=⟨Tryz.f166,Tryz.func166,by kernel_rfl,by kernel_rfl⟩
theorem en149:Go.X.Enters Tryz.prog 149:=⟨Tryz.f149,Tryz.func149,by kernel_rfl,by kernel_rfl⟩
theorem en169:Go.X.Enters Tryz.prog 169:=⟨Tryz.f169,Tryz.func169,by kernel_rfl,by kernel_rfl⟩
theorem en151:Go.X.Enters Tryz.prog 151:=⟨Tryz.f151,Tryz.func151,by kernel_rfl,by kernel_rfl⟩
theorem en147:Go.X.Enters Tryz.prog 147:=⟨Tryz.f147,Tryz.func147,by kernel_rfl,by kernel_rfl⟩
theorem en148:Go.X.Enters Tryz.prog 148:=⟨Tryz.f148,Tryz.func148,by kernel_rfl,by kernel_rfl⟩
theorem en121:Go.X.Enters Tryz.prog 121:=⟨Tryz.f121,Tryz.func121,by kernel_rfl,by kernel_rfl⟩
theorem en122:Go.X.Enters Tryz.prog 122:=⟨Tryz.f122,Tryz.func122,by kernel_rfl,by kernel_rfl⟩
theorem en125:Go.X.Enters Tryz.prog 125:=⟨Tryz.f125,Tryz.func125,by kernel_rfl,by kernel_rfl⟩
theorem en152:Go.X.Enters Tryz.prog 152:=⟨Tryz.f152,Tryz.func152,by kernel_rfl,by kernel_rfl⟩
theorem en126:Go.X.Enters Tryz.prog 126:=⟨Tryz.f126,Tryz.func126,by kernel_rfl,by kernel_rfl⟩
theorem en167:Go.X.Enters Tryz.prog 167:=⟨Tryz.f167,Tryz.func167,by kernel_rfl,by kernel_rfl⟩
theorem en150:Go.X.Enters Tryz.prog 150:=⟨Tryz.f150,Tryz.func150,by kernel_rfl,by kernel_rfl⟩
theorem en123:Go.X.Enters Tryz.prog 123:=⟨Tryz.f123,Tryz.func123,by kernel_rfl,by kernel_rfl⟩
theorem en124:Go.X.Enters Tryz.prog 124:=⟨Tryz.f124,Tryz.func124,by kernel_rfl,by kernel_rfl⟩
theorem en92:Go.X.Enters Tryz.prog 92:=⟨Tryz.f92,Tryz.func92,by kernel_rfl,by kernel_rfl⟩
theorem en107:Go.X.Enters Tryz.prog 107:=⟨Tryz.f107,Tryz.func107,by kernel_rfl,by kernel_rfl⟩
theorem en74:Go.X.Enters Tryz.prog 74:=⟨Tryz.f74,Tryz.func74,by kernel_rfl,by kernel_rfl⟩
theorem en106:Go.X.Enters Tryz.prog 106:=⟨Tryz.f106,Tryz.func106,by kernel_rfl,by kernel_rfl⟩
theorem en73:Go.X.Enters Tryz.prog 73:=⟨Tryz.f73,Tryz.func73,by kernel_rfl,by kernel_rfl⟩
theorem en71:Go.X.Enters Tryz.prog 71:=⟨Tryz.f71,Tryz.func71,by kernel_rfl,by kernel_rfl⟩
theorem en72:Go.X.Enters Tryz.prog 72:=⟨Tryz.f72,Tryz.func72,by kernel_rfl,by kernel_rfl⟩
theorem en76:Go.X.Enters Tryz.prog 76:=⟨Tryz.f76,Tryz.func76,by kernel_rfl,by kernel_rfl⟩
theorem en75:Go.X.Enters Tryz.prog 75:=⟨Tryz.f75,Tryz.func75,by kernel_rfl,by kernel_rfl⟩
theorem en37:Go.X.Enters Tryz.prog 37:=⟨Tryz.f37,Tryz.func37,by kernel_rfl,by kernel_rfl⟩
theorem en36:Go.X.Enters Tryz.prog 36:=⟨Tryz.f36,Tryz.func36,by kernel_rfl,by kernel_rfl⟩
theorem en42:Go.X.Enters Tryz.prog 42:=⟨Tryz.f42,Tryz.func42,by kernel_rfl,by kernel_rfl⟩
theorem en95:Go.X.Enters Tryz.prog 95:=⟨Tryz.f95,Tryz.func95,by kernel_rfl,by kernel_rfl⟩
theorem en61:Go.X.Enters Tryz.prog 61:=⟨Tryz.f61,Tryz.func61,by kernel_rfl,by kernel_rfl⟩
theorem en40:Go.X.Enters Tryz.prog 40:=⟨Tryz.f40,Tryz.func40,by kernel_rfl,by kernel_rfl⟩
theorem en39:Go.X.Enters Tryz.prog 39:=⟨Tryz.f39,Tryz.func39,by kernel_rfl,by kernel_rfl⟩
theorem en41:Go.X.Enters Tryz.prog 41:=⟨Tryz.f41,Tryz.func41,by kernel_rfl,by kernel_rfl⟩
theorem en12:Go.X.Enters Tryz.prog 12:=⟨Tryz.f12,Tryz.func12,by kernel_rfl,by kernel_rfl⟩
theorem en15:Go.X.Enters Tryz.prog 15:=⟨Tryz.f15,Tryz.func15,by kernel_rfl,by kernel_rfl⟩
theorem en60:Go.X.Enters Tryz.prog 60:=⟨Tryz.f60,Tryz.func60,by kernel_rfl,by kernel_rfl⟩
theorem en29:Go.X.Enters Tryz.prog 29:=⟨Tryz.f29,Tryz.func29,by kernel_rfl,by kernel_rfl⟩
theorem en33:Go.X.Enters Tryz.prog 33:=⟨Tryz.f33,Tryz.func33,by kernel_rfl,by kernel_rfl⟩
theorem en26:Go.X.Enters Tryz.prog 26:=⟨Tryz.f26,Tryz.func26,by kernel_rfl,by kernel_rfl⟩
theorem en59:Go.X.Enters Tryz.prog 59:=⟨Tryz.f59,Tryz.func59,by kernel_rfl,by kernel_rfl⟩
theorem en28:Go.X.Enters Tryz.prog 28:=⟨Tryz.f28,Tryz.func28,by kernel_rfl,by kernel_rfl⟩
theorem en38:Go.X.Enters Tryz.prog 38:=⟨Tryz.f38,Tryz.func38,by kernel_rfl,by kernel_rfl⟩
theorem en27:Go.X.Enters Tryz.prog 27:=⟨Tryz.f27,Tryz.func27,by kernel_rfl,by kernel_rfl⟩
theorem en35:Go.X.Enters Tryz.prog 35:=⟨Tryz.f35,Tryz.func35,by kernel_rfl,by kernel_rfl⟩
theorem en21:Go.X.Enters Tryz.prog 21:=⟨Tryz.f21,Tryz.func21,by kernel_rfl,by kernel_rfl⟩
theorem en10:Go.X.Enters Tryz.prog 10:=⟨Tryz.f10,Tryz.func10,by kernel_rfl,by kernel_rfl⟩
theorem en11:Go.X.Enters Tryz.prog 11:=⟨Tryz.f11,Tryz.func11,by kernel_rfl,by kernel_rfl⟩
theorem en8:Go.X.Enters Tryz.prog 8:=⟨Tryz.f8,Tryz.func8,by kernel_rfl,by kernel_rfl⟩
theorem mky_9:MKey Tryz.prog 9 (fun x:List UInt8=>Value.string (s8 x)):=MKey.str Tryz.underlying9
theorem mky_3:MKey Tryz.prog 3 (fun x:Int=>Value.int .i64 x):=MKey.int Tryz.underlying3
def tb:List (TyE Tryz.prog):=[⟨3,_,_,_,_,Tryz.underlying3,ti3⟩,
 ⟨57,_,_,_,_,Tryz.underlying57,ti57⟩,
 ⟨55,_,_,_,_,Tryz.underlying55,ti55⟩,
 ⟨23,_,_,_,_,Tryz.underlying23,ti23⟩,
 ⟨2,_,_,_,_,Tryz.underlying2,ti2⟩,
 ⟨177,_,_,_,_,Tryz.underlying177,ti177⟩,
 ⟨29,_,_,_,_,Tryz.underlying29,ti29⟩,
 ⟨27,_,_,_,_,Tryz.underlying27,ti27⟩,
 ⟨9,_,_,_,_,Tryz.underlying9,ti9⟩,
 ⟨149,_,_,_,_,Tryz.underlying149,ti149⟩,
 ⟨88,_,_,_,_,Tryz.underlying88,ti88⟩,
 ⟨26,_,_,_,_,Tryz.underlying26,ti26⟩,
 ⟨22,_,_,_,_,Tryz.underlying22,ti22⟩,
 ⟨4,_,_,_,_,Tryz.underlying4,ti4⟩,
 ⟨51,_,_,_,_,Tryz.underlying51,ti51⟩,
 ⟨123,_,_,_,_,Tryz.underlying123,ti123⟩,
 ⟨73,_,_,_,_,Tryz.underlying73,ti73⟩,
 ⟨90,_,_,_,_,Tryz.underlying90,ti90⟩,
 ⟨184,_,_,_,_,Tryz.underlying184,ti184⟩,
 ⟨112,_,_,_,_,Tryz.underlying112,ti112⟩,
 ⟨65,_,_,_,_,Tryz.underlying65,ti65⟩,
 ⟨70,_,_,_,_,Tryz.underlying70,ti70⟩,
 ⟨54,_,_,_,_,Tryz.underlying54,ti54⟩,
 ⟨87,_,_,_,_,Tryz.underlying87,ti87⟩,
 ⟨63,_,_,_,_,Tryz.underlying63,ti63⟩,
 ⟨25,_,_,_,_,Tryz.underlying25,ti25⟩,
 ⟨83,_,_,_,_,Tryz.underlying83,ti83⟩,
 ⟨41,_,_,_,_,Tryz.underlying41,ti41⟩,
 ⟨188,_,_,_,_,Tryz.underlying188,ti188⟩,
 ⟨92,_,_,_,_,Tryz.underlying92,ti92⟩,
 ⟨24,_,_,_,_,Tryz.underlying24,ti24⟩,
 ⟨68,_,_,_,_,Tryz.underlying68,ti68⟩,
 ⟨104,_,_,_,_,Tryz.underlying104,ti104⟩,
 ⟨71,_,_,_,_,Tryz.underlying71,ti71⟩,
 ⟨97,_,_,_,_,Tryz.underlying97,ti97⟩,
 ⟨67,_,_,_,_,Tryz.underlying67,ti67⟩,
 ⟨95,_,_,_,_,Tryz.underlying95,ti95⟩,
 ⟨5,_,_,_,_,Tryz.underlying5,ti5⟩,
 ⟨94,_,_,_,_,Tryz.underlying94,ti94⟩,
 ⟨190,_,_,_,_,Tryz.underlying190,ti190⟩,
 ⟨133,_,_,_,_,Tryz.underlying133,ti133⟩,
 ⟨229,_,_,_,_,Tryz.underlying229,ti229⟩,
 ⟨33,_,_,_,_,Tryz.underlying33,ti33⟩,
 ⟨59,_,_,_,_,Tryz.underlying59,ti59⟩,
 ⟨227,_,_,_,_,Tryz.underlying227,ti227⟩,
 ⟨110,_,_,_,_,Tryz.underlying110,ti110⟩,
 ⟨21,_,_,_,_,Tryz.underlying21,ti21⟩,
 ⟨135,_,_,_,_,Tryz.underlying135,ti135⟩,
 ⟨220,_,_,_,_,Tryz.underlying220,ti220⟩,
 ⟨31,_,_,_,_,Tryz.underlying31,ti31⟩]
instance:Opn rBig:=⟨fun κ x=>[.v (Value.bool x.Negative),.ro (rInt .u32) κ x.Digits],
 fun h=>by obtain⟨v0,h0,k0,-⟩:=rBig_open h;exact⟨_,_,h0,⟨rfl,rfl⟩,_,_,rfl,k0,rfl⟩,
 fun h=>by obtain⟨_,_,rfl,⟨rfl,_⟩,v0,_,rfl,k0,rfl⟩:=h;exact rBig_close ⟨v0,rfl,k0,trivial⟩⟩
instance:Opn rConstraint:=⟨fun κ x=>[.v (Value.int .i64 x.Linear.Const),.ro rCoef κ x.Linear.Coefs,.v (Value.bool x.Equal)],
 fun h=>by obtain⟨v0,h0,k0,-⟩:=rConstraint_open h;exact⟨_,_,h0,⟨rfl,rfl⟩,_,_,rfl,k0,_,_,rfl,⟨rfl,rfl⟩,rfl⟩,
 fun h=>by obtain⟨_,_,rfl,⟨rfl,_⟩,v0,_,rfl,k0,_,_,rfl,⟨rfl,_⟩,rfl⟩:=h;exact rConstraint_close ⟨v0,rfl,k0,trivial⟩⟩
instance:Opn rLinear:=⟨fun κ x=>[.v (Value.int .i64 x.Const),.ro rCoef κ x.Coefs],
 fun h=>by obtain⟨v0,h0,k0,-⟩:=rLinear_open h;exact⟨_,_,h0,⟨rfl,rfl⟩,_,_,rfl,k0,rfl⟩,
 fun h=>by obtain⟨_,_,rfl,⟨rfl,_⟩,v0,_,rfl,k0,rfl⟩:=h;exact rLinear_close ⟨v0,rfl,k0,trivial⟩⟩
instance:Opn rCoef:=⟨fun κ x=>[.v (Value.int .i64 x.Var),.v (Value.int .i64 x.N)],
 fun h=>by obtain⟨h0,-⟩:=rCoef_open h;exact⟨_,_,h0,⟨rfl,rfl⟩,_,_,rfl,⟨rfl,rfl⟩,rfl⟩,
 fun h=>by obtain⟨_,_,rfl,⟨rfl,_⟩,_,_,rfl,⟨rfl,_⟩,rfl⟩:=h;exact rCoef_close ⟨rfl,trivial⟩⟩
instance:Opn rIneq:=⟨fun κ x=>[.ro rBig κ x.Coefs,.v (Value.bool x.Bound.Negative),.ro (rInt .u32) κ x.Bound.Digits],
 fun h=>by obtain⟨v0,v1,h0,k0,k1,-⟩:=rIneq_open h;exact⟨_,_,h0,k0,_,_,rfl,⟨rfl,rfl⟩,_,_,rfl,k1,rfl⟩,
 fun h=>by obtain⟨v0,_,rfl,k0,_,_,rfl,⟨rfl,_⟩,v1,_,rfl,k1,rfl⟩:=h;exact rIneq_close ⟨v0,v1,rfl,k0,k1,trivial⟩⟩
instance:Opn rStep:=⟨fun κ x=>[.ro rUse κ x.Uses,.v (Value.bool x.Divisor.Negative),.ro (rInt .u32) κ x.Divisor.Digits],
 fun h=>by obtain⟨v0,v1,h0,k0,k1,-⟩:=rStep_open h;exact⟨_,_,h0,k0,_,_,rfl,⟨rfl,rfl⟩,_,_,rfl,k1,rfl⟩,
 fun h=>by obtain⟨v0,_,rfl,k0,_,_,rfl,⟨rfl,_⟩,v1,_,rfl,k1,rfl⟩:=h;exact rStep_close ⟨v0,v1,rfl,k0,k1,trivial⟩⟩
instance:Opn rUse:=⟨fun κ x=>[.v (Value.int .i64 x.Index),.v (Value.bool x.N.Negative),.ro (rInt .u32) κ x.N.Digits],
 fun h=>by obtain⟨v0,h0,k0,-⟩:=rUse_open h;exact⟨_,_,h0,⟨rfl,rfl⟩,_,_,rfl,⟨rfl,rfl⟩,_,_,rfl,k0,rfl⟩,
 fun h=>by obtain⟨_,_,rfl,⟨rfl,_⟩,_,_,rfl,⟨rfl,_⟩,v0,_,rfl,k0,rfl⟩:=h;exact rUse_close ⟨v0,rfl,k0,trivial⟩⟩
instance:Opn rProof:=⟨fun κ x=>[.ro rStep κ x.Steps,.ro rBig κ x.Form,.v (Value.bool x.Bound.Negative),.ro (rInt .u32) κ x.Bound.Digits,.ro rProof κ x.Children],
 fun h=>by obtain⟨v0,v1,v2,v3,h0,k0,k1,k2,k3,-⟩:=rProof_open h;exact⟨_,_,h0,k0,_,_,rfl,k1,_,_,rfl,⟨rfl,rfl⟩,_,_,rfl,k2,_,_,rfl,k3,rfl⟩,
 fun h=>by obtain⟨v0,_,rfl,k0,v1,_,rfl,k1,_,_,rfl,⟨rfl,_⟩,v2,_,rfl,k2,v3,_,rfl,k3,rfl⟩:=h;exact rProof_close ⟨v0,v1,v2,v3,rfl,k0,k1,k2,k3,trivial⟩⟩
instance:Opn rTTest:=⟨fun κ x=>[.v (Value.int .i64 x.Var),.v (Value.int .i64 x.Kind),.v (Value.bool x.Negated),.v (Value.string (s8 x.Text))],
 fun h=>by obtain⟨h0,-⟩:=rTTest_open h;exact⟨_,_,h0,⟨rfl,rfl⟩,_,_,rfl,⟨rfl,rfl⟩,_,_,rfl,⟨rfl,rfl⟩,_,_,rfl,⟨rfl,rfl⟩,rfl⟩,
 fun h=>by obtain⟨_,_,rfl,⟨rfl,_⟩,_,_,rfl,⟨rfl,_⟩,_,_,rfl,⟨rfl,_⟩,_,_,rfl,⟨rfl,_⟩,rfl⟩:=h;exact rTTest_close ⟨rfl,trivial⟩⟩
instance:Opn rTProb:=⟨fun κ x=>[.ro (rInt .i64) κ x.Min,.ro (rInt .i64) κ x.Max,.ro rTTest κ x.Tests,.ro rArr2Int κ x.Same,.ro rArr2Int κ x.Different],
 fun h=>by obtain⟨v0,v1,v2,v3,v4,h0,k0,k1,k2,k3,k4,-⟩:=rTProb_open h;exact⟨_,_,h0,k0,_,_,rfl,k1,_,_,rfl,k2,_,_,rfl,k3,_,_,rfl,k4,rfl⟩,
 fun h=>by obtain⟨v0,_,rfl,k0,v1,_,rfl,k1,v2,_,rfl,k2,v3,_,rfl,k3,v4,_,rfl,k4,rfl⟩:=h;exact rTProb_close ⟨v0,v1,v2,v3,v4,rfl,k0,k1,k2,k3,k4,trivial⟩⟩
instance:Opn rArr2Int:=⟨fun κ x=>[.v (Value.int .i64 x.e0),.v (Value.int .i64 x.e1)],
 fun h=>by obtain⟨h0,-⟩:=rArr2Int_open h;exact⟨_,_,h0,⟨rfl,rfl⟩,_,_,rfl,⟨rfl,rfl⟩,rfl⟩,
 fun h=>by obtain⟨_,_,rfl,⟨rfl,_⟩,_,_,rfl,⟨rfl,_⟩,rfl⟩:=h;exact rArr2Int_close ⟨rfl,trivial⟩⟩
instance:Opn rTClass:=⟨fun κ x=>[.v (Value.int .i64 x.low),.v (Value.int .i64 x.high),.ro rTTest κ x.tests,.ro rStr κ x.words,.ro (rInt .i64) κ x.apart],
 fun h=>by obtain⟨v0,v1,v2,h0,k0,k1,k2,-⟩:=rTClass_open h;exact⟨_,_,h0,⟨rfl,rfl⟩,_,_,rfl,⟨rfl,rfl⟩,_,_,rfl,k0,_,_,rfl,k1,_,_,rfl,k2,rfl⟩,
 fun h=>by obtain⟨_,_,rfl,⟨rfl,_⟩,_,_,rfl,⟨rfl,_⟩,v0,_,rfl,k0,v1,_,rfl,k1,v2,_,rfl,k2,rfl⟩:=h;exact rTClass_close ⟨v0,v1,v2,rfl,k0,k1,k2,trivial⟩⟩
instance:Opn rRClause:=⟨fun κ x=>[.ro (rInt .i64) κ x.Null,.ro (rInt .i64) κ x.NotNull,.ro rRAux κ x.Auxiliary,.ro rConstraint κ x.Ints,.ro rTTest κ x.Tests,.ro rArr2Int κ x.Same,.ro rArr2Int κ x.Different],
 fun h=>by obtain⟨v0,v1,v2,v3,v4,v5,v6,h0,k0,k1,k2,k3,k4,k5,k6,-⟩:=rRClause_open h;exact⟨_,_,h0,k0,_,_,rfl,k1,_,_,rfl,k2,_,_,rfl,k3,_,_,rfl,k4,_,_,rfl,k5,_,_,rfl,k6,rfl⟩,
 fun h=>by obtain⟨v0,_,rfl,k0,v1,_,rfl,k1,v2,_,rfl,k2,v3,_,rfl,k3,v4,_,rfl,k4,v5,_,rfl,k5,v6,_,rfl,k6,rfl⟩:=h;exact rRClause_close ⟨v0,v1,v2,v3,v4,v5,v6,rfl,k0,k1,k2,k3,k4,k5,k6,trivial⟩⟩
instance:Opn rRAux:=⟨fun κ x=>[.v (Value.int .i64 x.Of.Const),.ro rCoef κ x.Of.Coefs,.v (Value.int .i64 x.By),.v (Value.int .i64 x.Text)],
 fun h=>by obtain⟨v0,h0,k0,-⟩:=rRAux_open h;exact⟨_,_,h0,⟨rfl,rfl⟩,_,_,rfl,k0,_,_,rfl,⟨rfl,rfl⟩,_,_,rfl,⟨rfl,rfl⟩,rfl⟩,
 fun h=>by obtain⟨_,_,rfl,⟨rfl,_⟩,v0,_,rfl,k0,_,_,rfl,⟨rfl,_⟩,_,_,rfl,⟨rfl,_⟩,rfl⟩:=h;exact rRAux_close ⟨v0,rfl,k0,trivial⟩⟩
instance:Opn rRVar:=⟨fun κ x=>[.v (Value.int .i64 x.Ty),.v (Value.int .i64 x.Low),.v (Value.int .i64 x.High),.v (Value.int .i64 x.Max),.v (Value.bool x.Nullable)],
 fun h=>by obtain⟨h0,-⟩:=rRVar_open h;exact⟨_,_,h0,⟨rfl,rfl⟩,_,_,rfl,⟨rfl,rfl⟩,_,_,rfl,⟨rfl,rfl⟩,_,_,rfl,⟨rfl,rfl⟩,_,_,rfl,⟨rfl,rfl⟩,rfl⟩,
 fun h=>by obtain⟨_,_,rfl,⟨rfl,_⟩,_,_,rfl,⟨rfl,_⟩,_,_,rfl,⟨rfl,_⟩,_,_,rfl,⟨rfl,_⟩,_,_,rfl,⟨rfl,_⟩,rfl⟩:=h;exact rRVar_close ⟨rfl,trivial⟩⟩
instance:Opn rRVal:=⟨fun κ x=>[.v (Value.int .i64 x.Kind),.v (Value.int .i64 x.Int),.v (Value.string (s8 x.Text))],
 fun h=>by obtain⟨h0,-⟩:=rRVal_open h;exact⟨_,_,h0,⟨rfl,rfl⟩,_,_,rfl,⟨rfl,rfl⟩,_,_,rfl,⟨rfl,rfl⟩,rfl⟩,
 fun h=>by obtain⟨_,_,rfl,⟨rfl,_⟩,_,_,rfl,⟨rfl,_⟩,_,_,rfl,⟨rfl,_⟩,rfl⟩:=h;exact rRVal_close ⟨rfl,trivial⟩⟩
instance:Opn rRefut:=⟨fun κ x=>[.v (Value.int .i64 x.Kind),.v (Value.int .i64 x.Var),.v (Value.int .i64 x.At),.ro rStep κ x.Proof.Steps,.ro rBig κ x.Proof.Form,.v (Value.bool x.Proof.Bound.Negative),.ro (rInt .u32) κ x.Proof.Bound.Digits,.ro rProof κ x.Proof.Children,.ro rRefut κ x.Children],
 fun h=>by obtain⟨v0,v1,v2,v3,v4,h0,k0,k1,k2,k3,k4,-⟩:=rRefut_open h;exact⟨_,_,h0,⟨rfl,rfl⟩,_,_,rfl,⟨rfl,rfl⟩,_,_,rfl,⟨rfl,rfl⟩,_,_,rfl,k0,_,_,rfl,k1,_,_,rfl,⟨rfl,rfl⟩,_,_,rfl,k2,_,_,rfl,k3,_,_,rfl,k4,rfl⟩,
 fun h=>by obtain⟨_,_,rfl,⟨rfl,_⟩,_,_,rfl,⟨rfl,_⟩,_,_,rfl,⟨rfl,_⟩,v0,_,rfl,k0,v1,_,rfl,k1,_,_,rfl,⟨rfl,_⟩,v2,_,rfl,k2,v3,_,rfl,k3,v4,_,rfl,k4,rfl⟩:=h;exact rRefut_close ⟨v0,v1,v2,v3,v4,rfl,k0,k1,k2,k3,k4,trivial⟩⟩
instance:Opn rRCase:=⟨fun κ x=>[.ro rRVar κ x.L,.ro (rInt .i64) κ x.C.Null,.ro (rInt .i64) κ x.C.NotNull,.ro rRAux κ x.C.Auxiliary,.ro rConstraint κ x.C.Ints,.ro rTTest κ x.C.Tests,.ro rArr2Int κ x.C.Same,.ro rArr2Int κ x.C.Different,.ro rArr2Int κ x.Ranges,.ro rRVal κ x.R],
 fun h=>by obtain⟨v0,v1,v2,v3,v4,v5,v6,v7,v8,v9,h0,k0,k1,k2,k3,k4,k5,k6,k7,k8,k9,-⟩:=rRCase_open h;exact⟨_,_,h0,k0,_,_,rfl,k1,_,_,rfl,k2,_,_,rfl,k3,_,_,rfl,k4,_,_,rfl,k5,_,_,rfl,k6,_,_,rfl,k7,_,_,rfl,k8,_,_,rfl,k9,rfl⟩,
 fun h=>by obtain⟨v0,_,rfl,k0,v1,_,rfl,k1,v2,_,rfl,k2,v3,_,rfl,k3,v4,_,rfl,k4,v5,_,rfl,k5,v6,_,rfl,k6,v7,_,rfl,k7,v8,_,rfl,k8,v9,_,rfl,k9,rfl⟩:=h;exact rRCase_close ⟨v0,v1,v2,v3,v4,v5,v6,v7,v8,v9,rfl,k0,k1,k2,k3,k4,k5,k6,k7,k8,k9,trivial⟩⟩
instance:Opn rRClaim:=⟨fun κ x=>[.ro rRVar κ x.L,.ro (rInt .i64) κ x.C.Null,.ro (rInt .i64) κ x.C.NotNull,.ro rRAux κ x.C.Auxiliary,.ro rConstraint κ x.C.Ints,.ro rTTest κ x.C.Tests,.ro rArr2Int κ x.C.Same,.ro rArr2Int κ x.C.Different,.v (Value.int .i64 x.F.Kind),.v (Value.int .i64 x.F.Var),.v (Value.int .i64 x.F.At),.ro rStep κ x.F.Proof.Steps,.ro rBig κ x.F.Proof.Form,.v (Value.bool x.F.Proof.Bound.Negative),.ro (rInt .u32) κ x.F.Proof.Bound.Digits,.ro rProof κ x.F.Proof.Children,.ro rRefut κ x.F.Children,.ro rRVal κ x.R],
 fun h=>by obtain⟨v0,v1,v2,v3,v4,v5,v6,v7,v8,v9,v10,v11,v12,v13,h0,k0,k1,k2,k3,k4,k5,k6,k7,k8,k9,k10,k11,k12,k13,-⟩:=rRClaim_open h;exact⟨_,_,h0,k0,_,_,rfl,k1,_,_,rfl,k2,_,_,rfl,k3,_,_,rfl,k4,_,_,rfl,k5,_,_,rfl,k6,_,_,rfl,k7,_,_,rfl,⟨rfl,rfl⟩,_,_,rfl,⟨rfl,rfl⟩,_,_,rfl,⟨rfl,rfl⟩,_,_,rfl,k8,_,_,rfl,k9,_,_,rfl,⟨rfl,rfl⟩,_,_,rfl,k10,_,_,rfl,k11,_,_,rfl,k12,_,_,rfl,k13,rfl⟩,
 fun h=>by obtain⟨v0,_,rfl,k0,v1,_,rfl,k1,v2,_,rfl,k2,v3,_,rfl,k3,v4,_,rfl,k4,v5,_,rfl,k5,v6,_,rfl,k6,v7,_,rfl,k7,_,_,rfl,⟨rfl,_⟩,_,_,rfl,⟨rfl,_⟩,_,_,rfl,⟨rfl,_⟩,v8,_,rfl,k8,v9,_,rfl,k9,_,_,rfl,⟨rfl,_⟩,v10,_,rfl,k10,v11,_,rfl,k11,v12,_,rfl,k12,v13,_,rfl,k13,rfl⟩:=h;exact rRClaim_close ⟨v0,v1,v2,v3,v4,v5,v6,v7,v8,v9,v10,v11,v12,v13,rfl,k0,k1,k2,k3,k4,k5,k6,k7,k8,k9,k10,k11,k12,k13,trivial⟩⟩
theorem dkTClass_tests:DF dkTClass 0 2 rTTest (fun x=>x.tests) (fun x y=>TClass.mk x.low x.high y x.words x.apart)where
 lt:=by decide
 lo:=by decide
 at':=by rintro _ _ _ x ⟨v0,b0,k0,v1,b1,k1,rfl,rfl,rfl,d0,d1,w0⟩;exact⟨v0,b0,k0,rfl,rfl,rfl,d0⟩
 st:=by rintro _ _ _ x v b k ys ⟨v0,b0,k0,v1,b1,k1,rfl,rfl,rfl,d0,d1,w0⟩ hd;exact⟨v,b,k,v1,b1,k1,rfl,rfl,rfl,hd,d1,w0⟩
 gs:=fun x=>rfl
 sz:=rfl
 fr:=fun _ _ _ _ h=>h
theorem dkTClass_apart:DF dkTClass 1 4 (rInt .i64) (fun x=>x.apart) (fun x y=>TClass.mk x.low x.high x.tests x.words y)where
 lt:=by decide
 lo:=by decide
 at':=by rintro _ _ _ x ⟨v0,b0,k0,v1,b1,k1,rfl,rfl,rfl,d0,d1,w0⟩;exact⟨v1,b1,k1,rfl,rfl,rfl,d1⟩
 st:=by rintro _ _ _ x v b k ys ⟨v0,b0,k0,v1,b1,k1,rfl,rfl,rfl,d0,d1,w0⟩ hd;exact⟨v0,b0,k0,v,b,k,rfl,rfl,rfl,d0,hd,w0⟩
 gs:=fun x=>rfl
 sz:=rfl
 fr:=fun _ _ _ _ h=>h
end Go.Proofs.YtcakdidcpoolcaaGreatDoor.TB
