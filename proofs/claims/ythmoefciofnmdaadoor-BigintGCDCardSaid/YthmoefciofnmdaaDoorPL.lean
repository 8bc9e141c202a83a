/- Plain counterparts, written by a program of mine (wip/tool). -/
import Derived.Test.YthmoefciofnmdaaDoorT18
import Derived.Test.YthmoefciofnmdaaDoorFD
import Derived.Test.YthmoefciofnmdaaDoorPA
import Derived.Test.YthmoefciofnmdaaDoorPR
import Derived.Test.YthmoefciofnmdaaDoorPB
set_option linter.unusedVariables false
set_option linter.unusedSimpArgs false
namespace Go.D
open Go Go.X
/- disjoint/disjointlaw02.cp -/
def lcp (N : Nat) (x : Big) : Option Big :=
  (rCopy N x).bind fun r11 =>
  some r11
/- disjoint/disjointlaw02.small -/
def lsmall_b1 (N : Nat) (l : (List Big)) : Int → Option (Stp Int (Sum Unit Bool))
  | x80 =>
    (if (x80 : Int) < (List.length l : Int) then
      (idx l x80).bind fun x89 =>
      (rSmallB N x89).bind fun r115 =>
      (if (!r115) = true then
        some (Stp.done (Sum.inr false))
      else
        some (Stp.next (iw (x80 + 1))))
    else
      some (Stp.done (Sum.inl ())))
def lsmall (N : Nat) (l : (List Big)) : Option Bool :=
  (loopM (lsmall_b1 N l) N 0).bind fun ss =>
    match ss with
    | (Sum.inl _) =>
      some true
    | (Sum.inr z130) => some z130
/- disjoint/disjointlaw02.awake -/
def awake_lit20 : List UInt8 := [49, 56, 52, 52, 54, 55, 52, 52, 48, 55, 51, 55, 48, 57, 53, 53, 49, 54, 49, 54]
def awake (N : Nat)  : Option Bool :=
  (bParse N awake_lit20).bind fun r1 =>
  (bParse N ([45, 48] : List UInt8)).bind fun r20 =>
  (bParse N ([48, 48, 55] : List UInt8)).bind fun r39 =>
  (bOf N (-7)).bind fun r58 =>
  (bOf N 2).bind fun r67 =>
  (bDivFloor N r58 r67).bind fun r76 =>
  (bOf N 7).bind fun r108 =>
  (bOf N (-2)).bind fun r117 =>
  (bDivFloor N r108 r117).bind fun r126 =>
  (bOf N (-12)).bind fun r158 =>
  (bOf N 18).bind fun r167 =>
  (bGCD N r158 r167).bind fun r176 =>
  (if (r1.2 : Int) = 0 then
    (rSame N r1.1 (Big.mk false [0, 0, 1])).bind fun r205 =>
    (if r205 = true then
      (bFormat N r1.1).bind fun r215 =>
      (if r215 = awake_lit20 then
        (if (r20.2 : Int) = 2 then
          (if (r39.2 : Int) = 2 then
            (if r76.2.2 = true then
              (if r126.2.2 = true then
                (bFormat N r76.1).bind fun r228 =>
                (if r228 = ([45, 52] : List UInt8) then
                  (bFormat N r76.2.1).bind fun r237 =>
                  (if r237 = ([49] : List UInt8) then
                    (bFormat N r126.1).bind fun r246 =>
                    (if r246 = ([45, 52] : List UInt8) then
                      (bFormat N r126.2.1).bind fun r255 =>
                      (if r255 = ([45, 49] : List UInt8) then
                        (bFormat N r176).bind fun r264 =>
                        some (decide (r264 = ([54] : List UInt8)))
                      else
                        some false)
                    else
                      some false)
                  else
                    some false)
                else
                  some false)
              else
                some false)
            else
              some false)
          else
            some false)
        else
          some false)
      else
        some false)
    else
      some false)
  else
    some false)
/- disjoint/disjointlaw02.BigintDivision -/
def lawDivision (N : Nat) (a : Big) (b : Big) : Option Bool :=
  (((awake N ).bind fun r42 =>
  (if (!r42) = true then
    some true
  else
    (lsmall N [a, b]).bind fun r63 =>
    some (!r63)) : Option Bool)).bind fun ss =>
    match ss with
    | x39 =>
      (if x39 = true then
        (awake N ).bind fun r78 =>
        some r78
      else
        (lcp N a).bind fun r85 =>
        (lcp N b).bind fun r90 =>
        (bDivFloor N r85 r90).bind fun r95 =>
        (rDivFloor N a b).bind fun r213 =>
        (if (r95.2.2 == r213.2.2) = true then
          (rSame N r95.1 r213.1).bind fun r247 =>
          (if r247 = true then
            (rSame N r95.2.1 r213.2.1).bind fun r257 =>
            some r257
          else
            some false)
        else
          some false))
/- disjoint/disjointlaw02.BigintProduct -/
def lawProduct (N : Nat) (a : Big) (b : Big) : Option Bool :=
  (((awake N ).bind fun r42 =>
  (if (!r42) = true then
    some true
  else
    (lsmall N [a, b]).bind fun r63 =>
    some (!r63)) : Option Bool)).bind fun ss =>
    match ss with
    | x39 =>
      (if x39 = true then
        (awake N ).bind fun r78 =>
        some r78
      else
        (lcp N a).bind fun r85 =>
        (lcp N b).bind fun r90 =>
        (bMul N r85 r90).bind fun r95 =>
        (rMul N a b).bind fun r160 =>
        (rSame N r95 r160).bind fun r171 =>
        some r171)
/- disjoint/disjointlaw02.BigintGCD -/
def lawGCD (N : Nat) (a : Big) (b : Big) : Option Bool :=
  (((awake N ).bind fun r42 =>
  (if (!r42) = true then
    some true
  else
    (lsmall N [a, b]).bind fun r63 =>
    some (!r63)) : Option Bool)).bind fun ss =>
    match ss with
    | x39 =>
      (if x39 = true then
        (awake N ).bind fun r78 =>
        some r78
      else
        (lcp N a).bind fun r85 =>
        (lcp N b).bind fun r90 =>
        (bGCD N r85 r90).bind fun r95 =>
        (rGCD N a b).bind fun r166 =>
        (rSame N r95 r166).bind fun r209 =>
        (if (!r209) = true then
          some false
        else
          (lcp N a).bind fun r218 =>
          (lcp N r95).bind fun r223 =>
          (bDivFloor N r218 r223).bind fun r228 =>
          (lcp N b).bind fun r346 =>
          (lcp N r95).bind fun r351 =>
          (bDivFloor N r346 r351).bind fun r356 =>
          (if (r228.2.2 == r356.2.2) = true then
            (bSign N r95).bind fun r475 =>
            (if (r228.2.2 == (decide ((r475 : Int) ≠ 0))) = true then
              (bSign N r228.2.1).bind fun r484 =>
              (if (r484 : Int) = 0 then
                (bSign N r356.2.1).bind fun r493 =>
                some (decide ((r493 : Int) = 0))
              else
                some false)
            else
              some false)
          else
            some false)))
/- disjoint/disjointlaw02.BigintRing -/
def lawRing (N : Nat) (a : Big) (b : Big) (c : Big) : Option Bool :=
  (((awake N ).bind fun r49 =>
  (if (!r49) = true then
    some true
  else
    (lsmall N [a, b, c]).bind fun r71 =>
    some (!r71)) : Option Bool)).bind fun ss =>
    match ss with
    | x46 =>
      (if x46 = true then
        (awake N ).bind fun r86 =>
        some r86
      else
        (lcp N a).bind fun r93 =>
        (lcp N b).bind fun r98 =>
        (bAdd N r93 r98).bind fun r103 =>
        (lcp N c).bind fun r108 =>
        (bMul N r103 r108).bind fun r113 =>
        (lcp N a).bind fun r206 =>
        (lcp N c).bind fun r211 =>
        (bMul N r206 r211).bind fun r216 =>
        (lcp N b).bind fun r221 =>
        (lcp N c).bind fun r226 =>
        (bMul N r221 r226).bind fun r231 =>
        (bAdd N r216 r231).bind fun r236 =>
        (lcp N a).bind fun r351 =>
        (lcp N b).bind fun r356 =>
        (bAdd N r351 r356).bind fun r361 =>
        (lcp N c).bind fun r366 =>
        (bAdd N r361 r366).bind fun r371 =>
        (lcp N a).bind fun r376 =>
        (lcp N b).bind fun r381 =>
        (lcp N c).bind fun r386 =>
        (bAdd N r381 r386).bind fun r391 =>
        (bAdd N r376 r391).bind fun r396 =>
        (lcp N a).bind fun r564 =>
        (lcp N b).bind fun r569 =>
        (bMul N r564 r569).bind fun r574 =>
        (lcp N c).bind fun r579 =>
        (bMul N r574 r579).bind fun r584 =>
        (lcp N a).bind fun r589 =>
        (lcp N b).bind fun r594 =>
        (lcp N c).bind fun r599 =>
        (bMul N r594 r599).bind fun r604 =>
        (bMul N r589 r604).bind fun r609 =>
        (rSame N r113 r236).bind fun r777 =>
        (if r777 = true then
          (rSame N r371 r396).bind fun r781 =>
          (if r781 = true then
            (rSame N r584 r609).bind fun r785 =>
            (if r785 = true then
              (lcp N a).bind fun r789 =>
              (lcp N b).bind fun r794 =>
              (bMul N r789 r794).bind fun r799 =>
              (lcp N b).bind fun r804 =>
              (lcp N a).bind fun r967 =>
              (bMul N r804 r967).bind fun r977 =>
              (rSame N r799 r977).bind fun r987 =>
              some r987
            else
              some false)
          else
            some false)
        else
          some false))
/- disjoint/disjointlaw02.BigintOf -/
def lawOf (N : Nat) (n : Int) : Option Bool :=
  (bOf N n).bind fun r1 =>
  (lcp N r1).bind fun r20 =>
  (bInt64 N r20).bind fun r30 =>
  (awake N ).bind fun r37 =>
  (if r37 = true then
    (rOf N n).bind fun r41 =>
    (rSame N r1 r41).bind fun r46 =>
    (if r46 = true then
      (if (r30.1 : Int) = n then
        some r30.2
      else
        some false)
    else
      some false)
  else
    some false)
/- disjoint/disjointlaw02.BigintSum -/
def lawSum (N : Nat) (a : Big) (b : Big) : Option Bool :=
  (((awake N ).bind fun r42 =>
  (if (!r42) = true then
    some true
  else
    (lsmall N [a, b]).bind fun r63 =>
    some (!r63)) : Option Bool)).bind fun ss =>
    match ss with
    | x39 =>
      (if x39 = true then
        (awake N ).bind fun r78 =>
        some r78
      else
        (lcp N a).bind fun r85 =>
        (lcp N b).bind fun r90 =>
        (bAdd N r85 r90).bind fun r95 =>
        (rAdd N a b).bind fun r100 =>
        (rSame N r95 r100).bind fun r105 =>
        (if r105 = true then
          (lcp N a).bind fun r109 =>
          (lcp N b).bind fun r114 =>
          (bSub N r109 r114).bind fun r119 =>
          (rSub N a b).bind fun r124 =>
          (rSame N r119 r124).bind fun r129 =>
          (if r129 = true then
            (lcp N a).bind fun r133 =>
            (lcp N b).bind fun r138 =>
            (bCompare N r133 r138).bind fun r143 =>
            (rCompare N a b).bind fun r352 =>
            some (decide ((r143 : Int) = r352))
          else
            some false)
        else
          some false))
/- disjoint/disjointlaw02.BigintNormal -/
def lawNormal (N : Nat) (x : Big) : Option Bool :=
  (((awake N ).bind fun r35 =>
  (if (!r35) = true then
    some true
  else
    (lsmall N [x]).bind fun r52 =>
    some (!r52)) : Option Bool)).bind fun ss =>
    match ss with
    | x32 =>
      (if x32 = true then
        (awake N ).bind fun r67 =>
        some r67
      else
        (lcp N x).bind fun r74 =>
        (bInt64 N r74).bind fun r84 =>
        (rInt64 N x).bind fun r91 =>
        (lcp N x).bind fun r99 =>
        (bNormal N r99).bind fun r104 =>
        (rNormal N x).bind fun r109 =>
        (rSame N r104 r109).bind fun r114 =>
        (if r114 = true then
          (lcp N x).bind fun r118 =>
          (bSign N r118).bind fun r123 =>
          (rSign N x).bind fun r126 =>
          (if (r123 : Int) = r126 then
            (lcp N x).bind fun r130 =>
            (bNeg N r130).bind fun r135 =>
            (rNeg N x).bind fun r140 =>
            (rSame N r135 r140).bind fun r145 =>
            (if r145 = true then
              (if (r84.1 : Int) = r91.1 then
                some (r84.2 == r91.2)
              else
                some false)
            else
              some false)
          else
            some false)
        else
          some false))
/- disjoint/disjointlaw02.BigintRemainder -/
def lawRemainder (N : Nat) (a : Big) (b : Big) : Option Bool :=
  (((awake N ).bind fun r42 =>
  (if (!r42) = true then
    some true
  else
    (lsmall N [a, b]).bind fun r63 =>
    some (!r63)) : Option Bool)).bind fun ss =>
    match ss with
    | x39 =>
      (if x39 = true then
        (awake N ).bind fun r78 =>
        some r78
      else
        (lcp N a).bind fun r85 =>
        (lcp N b).bind fun r90 =>
        (bDivFloor N r85 r90).bind fun r95 =>
        (if (!r95.2.2) = true then
          (lcp N b).bind fun r214 =>
          (bSign N r214).bind fun r224 =>
          some (decide ((r224 : Int) = 0))
        else
          (lcp N r95.1).bind fun r231 =>
          (lcp N b).bind fun r236 =>
          (bMul N r231 r236).bind fun r241 =>
          (lcp N r95.2.1).bind fun r246 =>
          (bAdd N r241 r246).bind fun r251 =>
          (lcp N a).bind fun r332 =>
          (bNormal N r332).bind fun r342 =>
          (rSame N r251 r342).bind fun r351 =>
          (if (!r351) = true then
            some false
          else
            (lcp N b).bind fun r360 =>
            (bSign N r360).bind fun r370 =>
            (if (r370 : Int) > 0 then
              (lcp N r95.2.1).bind fun r378 =>
              (bSign N r378).bind fun r383 =>
              (if (r383 : Int) ≥ 0 then
                (lcp N r95.2.1).bind fun r387 =>
                (lcp N b).bind fun r458 =>
                (bCompare N r387 r458).bind fun r468 =>
                some (decide ((r468 : Int) < 0))
              else
                some false)
            else
              (lcp N r95.2.1).bind fun r540 =>
              (bSign N r540).bind fun r545 =>
              (if (r545 : Int) ≤ 0 then
                (lcp N r95.2.1).bind fun r549 =>
                (lcp N b).bind fun r620 =>
                (bCompare N r549 r620).bind fun r630 =>
                some (decide ((r630 : Int) > 0))
              else
                some false)))))
end Go.D
