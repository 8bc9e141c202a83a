/- Plain counterparts, written by a program of mine (wip/tool). -/
import Derived.Test.YthmoefciofnmdaaDoorT18
import Derived.Test.YthmoefciofnmdaaDoorFD
import Derived.Test.YthmoefciofnmdaaDoorPA
import Derived.Test.YthmoefciofnmdaaDoorPR
import Derived.Test.YthmoefciofnmdaaDoorPB
set_option linter.unusedVariables false
set_option linter.unusedSimpArgs false
namespace Go.D
open Go Go.X
def bnormalO (N : Nat) (negative : Bool) (d : (List Int)) : Option Big :=
  (btrim N d).bind fun r6 =>
  (if ((List.length r6 : Int) : Int) = 0 then
    some (Big.mk false ([] : (List Int)))
  else
    some (Big.mk negative r6))
def bNormalO (N : Nat) (x : Big) : Option Big :=
  (bnormalO N x.Negative x.Digits).bind fun r11 =>
  some r11
def bNegO (N : Nat) (x : Big) : Option Big :=
  (bnormalO N (!x.Negative) x.Digits).bind fun r11 =>
  some r11
def bAddO (N : Nat) (a : Big) (b : Big) : Option Big :=
  (bNormal N a).bind fun r16 =>
  (bNormal N b).bind fun r53 =>
  (if (r16.Negative == r53.Negative) = true then
    (bplus N r16.Digits r53.Digits).bind fun r78 =>
    (bnormalO N r16.Negative r78).bind fun r95 =>
    some r95
  else
    (bcompare N r16.Digits r53.Digits).bind fun r115 =>
    (if (r115 : Int) < 0 then
      (bminus N r53.Digits r16.Digits).bind fun r129 =>
      (bnormalO N r53.Negative r129).bind fun r146 =>
      some r146
    else
      (bminus N r16.Digits r53.Digits).bind fun r170 =>
      (bnormalO N r16.Negative r170).bind fun r187 =>
      some r187))
def bSubO (N : Nat) (a : Big) (b : Big) : Option Big :=
  (bNeg N b).bind fun r20 =>
  (bAddO N a r20).bind fun r30 =>
  some r30
def bMulO (N : Nat) (a : Big) (b : Big) : Option Big :=
  (btimes N a.Digits b.Digits).bind fun r20 =>
  (bnormalO N (!(a.Negative == b.Negative)) r20).bind fun r37 =>
  some r37
def bDivFloorO (N : Nat) (a : Big) (b : Big) : Option (Big × Big × Bool) :=
  (bNormal N a).bind fun r21 =>
  (bNormal N b).bind fun r58 =>
  (if ((List.length r58.Digits : Int) : Int) = 0 then
    some ((Big.mk false ([] : (List Int))), (Big.mk false ([] : (List Int))), false)
  else
    (bdivide N r21.Digits r58.Digits).bind fun r99 =>
    (if (!(r21.Negative == r58.Negative)) = true then
      (((if ((List.length r99.2 : Int) : Int) > 0 then
        (bplus N r99.1 [1]).bind fun r198 =>
        (bminus N r58.Digits r99.2).bind fun r215 =>
        some (r198, r215)
      else
        some (r99.1, r99.2)) : Option ((List Int) × (List Int)))).bind fun ss =>
        match ss with
        | (q174, x183) =>
          (bnormalO N true q174).bind fun r249 =>
          (bnormalO N r58.Negative x183).bind fun r265 =>
          some (r249, r265, true)
    else
      (bnormalO N false r99.1).bind fun r295 =>
      (bnormalO N r58.Negative r99.2).bind fun r311 =>
      some (r295, r311, true)))
def bGCDO_b1 (N : Nat)  : ((List Int) × (List Int)) → Option (Stp ((List Int) × (List Int)) (List Int))
  | (x171, y180) =>
    (if ((List.length y180 : Int) : Int) > 0 then
      (bdivide N x171 y180).bind fun r207 =>
      some (Stp.next (y180, r207.2))
    else
      some (Stp.done x171))
def bGCDO (N : Nat) (a : Big) (b : Big) : Option Big :=
  (btrim N a.Digits).bind fun r16 =>
  (btrim N b.Digits).bind fun r73 =>
  (loopM (bGCDO_b1 N ) N (r16, r73)).bind fun ss =>
    match ss with
    | x190 =>
      (bnormalO N false x190).bind fun r241 =>
      some r241
end Go.D
