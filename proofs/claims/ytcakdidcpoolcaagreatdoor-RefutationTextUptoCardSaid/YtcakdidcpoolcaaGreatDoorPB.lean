/- Plain counterparts, written by a program of mine (wip/tool). -/
import Derived.Test.YtcakdidcpoolcaaGreatDoorT25
import Derived.Test.YtcakdidcpoolcaaGreatDoorFD25
import Derived.Test.YtcakdidcpoolcaaGreatDoorPA
import Derived.Test.YtcakdidcpoolcaaGreatDoorPR
set_option linter.unusedVariables false
set_option linter.unusedSimpArgs false
namespace Go.D
open Go Go.X
def bdivide (N : Nat) (a : (List Int)) (b : (List Int)) : Option ((List Int) × (List Int)) :=
 (bcompare N a b).bind fun r1 =>
 (if (r1 : Int) < 0 then
  (btrim N a).bind fun r9 =>
  some (([] : (List Int)), r9)
 else
  (if ((List.length b : Int) : Int) = 1 then
   (idx b 0).bind fun v0 =>
   (bshort N a v0).bind fun v1 =>
   (btrim N v1.1).bind fun v2 =>
   (btrim N [v1.2]).bind fun v3 =>
   some (v2, v3)
  else
   (idx b (iw ((List.length b : Int) - 1))).bind fun v4 =>
   none))
def bOf (N : Nat) (n : Int) : Option Big :=
 (((if (n : Int) < 0 then
  some (uw (0 - (uw n)))
 else
  some (uw n)) : Option Int)).bind fun ss =>
  match ss with
  | u8 =>
   (bnormal N (decide ((n : Int) < 0)) [(uw32 u8), (uw32 (bshr .u64 u8 32))]).bind fun v0 =>
   some v0
def bNormal (N : Nat) (x : Big) : Option Big :=
 (bnormal N x.Negative x.Digits).bind fun v0 =>
 some v0
def bSign (N : Nat) (x : Big) : Option Int :=
 (bNormal N x).bind fun r6 =>
 (if ((List.length r6.Digits : Int) : Int) = 0 then
  some 0
 else
  (if r6.Negative = true then
   some (-1)
  else
   some 1))
def bNeg (N : Nat) (x : Big) : Option Big :=
 (bnormal N (!x.Negative) x.Digits).bind fun v0 =>
 some v0
def bAdd (N : Nat) (a : Big) (b : Big) : Option Big :=
 (bNormal N a).bind fun v0 =>
 (bNormal N b).bind fun v1 =>
 (if (v0.Negative == v1.Negative) = true then
  (bplus N v0.Digits v1.Digits).bind fun v2 =>
  (bnormal N v0.Negative v2).bind fun v3 =>
  some v3
 else
  (bcompare N v0.Digits v1.Digits).bind fun v4 =>
  (if (v4 : Int) < 0 then
   (bminus N v1.Digits v0.Digits).bind fun v5 =>
   (bnormal N v1.Negative v5).bind fun v6 =>
   some v6
  else
   (bminus N v0.Digits v1.Digits).bind fun v7 =>
   (bnormal N v0.Negative v7).bind fun v8 =>
   some v8))
def bSub (N : Nat) (a : Big) (b : Big) : Option Big :=
 (bNeg N b).bind fun v0 =>
 (bAdd N a v0).bind fun v1 =>
 some v1
def bMul (N : Nat) (a : Big) (b : Big) : Option Big :=
 (btimes N a.Digits b.Digits).bind fun v0 =>
 (bnormal N (!(a.Negative == b.Negative)) v0).bind fun v1 =>
 some v1
def bDivFloor (N : Nat) (a : Big) (b : Big) : Option (Big × Big × Bool) :=
 (bNormal N a).bind fun v0 =>
 (bNormal N b).bind fun v1 =>
 (if ((List.length v1.Digits : Int) : Int) = 0 then
  some ((Big.mk false []), (Big.mk false []), false)
 else
  (bdivide N v0.Digits v1.Digits).bind fun v2 =>
  (if (!(v0.Negative == v1.Negative)) = true then
   (((if ((List.length v2.2 : Int) : Int) > 0 then
    (bplus N v2.1 [1]).bind fun v3 =>
    (bminus N v1.Digits v2.2).bind fun v4 =>
    some (v3, v4)
   else
    some (v2.1, v2.2)) : Option ((List Int) × (List Int)))).bind fun ss =>
    match ss with
    | (v5, v6) =>
     (bnormal N true v5).bind fun v7 =>
     (bnormal N v1.Negative v6).bind fun v8 =>
     some (v7, v8, true)
  else
   (bnormal N false v2.1).bind fun v9 =>
   (bnormal N v1.Negative v2.2).bind fun v10 =>
   some (v9, v10, true)))
end Go.D
