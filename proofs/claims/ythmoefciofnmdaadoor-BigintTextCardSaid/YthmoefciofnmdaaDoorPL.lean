/- Plain counterparts, written by a program of mine (wip/tool). -/
import Derived.Test.YthmoefciofnmdaaDoorT18
import Derived.Test.YthmoefciofnmdaaDoorFD
import Derived.Test.YthmoefciofnmdaaDoorPA
import Derived.Test.YthmoefciofnmdaaDoorPR
import Derived.Test.YthmoefciofnmdaaDoorPB
set_option linter.unusedVariables false
set_option linter.unusedSimpArgs false
namespace Go.D
open Go Go.X
def lcp (N : Nat) (x : Big) : Option Big :=
  (rCopy N x).bind fun r11 =>
  some r11
def lsmall_b1 (N : Nat) (l : (List Big)) : Int → Option (Stp Int (Sum Unit Bool))
  | x80 =>
    (if (x80 : Int) < (List.length l : Int) then
      (idx l x80).bind fun x89 =>
      (rSmallB N x89).bind fun r115 =>
      (if (!r115) = true then
        some (Stp.done (Sum.inr false))
      else
        some (Stp.next (iw (x80 + 1))))
    else
      some (Stp.done (Sum.inl ())))
def lsmall (N : Nat) (l : (List Big)) : Option Bool :=
  (loopM (lsmall_b1 N l) N 0).bind fun ss =>
    match ss with
    | (Sum.inl _) =>
      some true
    | (Sum.inr z130) => some z130
def awake_lit20 : List UInt8 := [49, 56, 52, 52, 54, 55, 52, 52, 48, 55, 51, 55, 48, 57, 53, 53, 49, 54, 49, 54]
def awake (N : Nat)  : Option Bool :=
  (bParse N awake_lit20).bind fun r1 =>
  (bParse N ([45, 48] : List UInt8)).bind fun r20 =>
  (bParse N ([48, 48, 55] : List UInt8)).bind fun r39 =>
  (bOf N (-7)).bind fun r58 =>
  (bOf N 2).bind fun r67 =>
  (bDivFloor N r58 r67).bind fun r76 =>
  (bOf N 7).bind fun r108 =>
  (bOf N (-2)).bind fun r117 =>
  (bDivFloor N r108 r117).bind fun r126 =>
  (bOf N (-12)).bind fun r158 =>
  (bOf N 18).bind fun r167 =>
  (bGCD N r158 r167).bind fun r176 =>
  (if (r1.2 : Int) = 0 then
    (rSame N r1.1 (Big.mk false [0, 0, 1])).bind fun r205 =>
    (if r205 = true then
      (bFormat N r1.1).bind fun r215 =>
      (if r215 = awake_lit20 then
        (if (r20.2 : Int) = 2 then
          (if (r39.2 : Int) = 2 then
            (if r76.2.2 = true then
              (if r126.2.2 = true then
                (bFormat N r76.1).bind fun r228 =>
                (if r228 = ([45, 52] : List UInt8) then
                  (bFormat N r76.2.1).bind fun r237 =>
                  (if r237 = ([49] : List UInt8) then
                    (bFormat N r126.1).bind fun r246 =>
                    (if r246 = ([45, 52] : List UInt8) then
                      (bFormat N r126.2.1).bind fun r255 =>
                      (if r255 = ([45, 49] : List UInt8) then
                        (bFormat N r176).bind fun r264 =>
                        some (decide (r264 = ([54] : List UInt8)))
                      else
                        some false)
                    else
                      some false)
                  else
                    some false)
                else
                  some false)
              else
                some false)
            else
              some false)
          else
            some false)
        else
          some false)
      else
        some false)
    else
      some false)
  else
    some false)
def lawText (N : Nat) (x : Big) (s : (List UInt8)) : Option Bool :=
  (((awake N ).bind fun r36 =>
  (if (!r36) = true then
    some true
  else
    (lsmall N [x]).bind fun r53 =>
    (if (!r53) = true then
      some true
    else
      some (decide (((List.length s : Int) : Int) > 80)))) : Option Bool)).bind fun ss =>
    match ss with
    | x33 =>
      (if x33 = true then
        (awake N ).bind fun r72 =>
        some r72
      else
        (lcp N x).bind fun r79 =>
        (bFormat N r79).bind fun r89 =>
        (bParse N r89).bind fun r96 =>
        (bParse N s).bind fun r115 =>
        (rParse N s).bind fun r134 =>
        (rText N x).bind fun r153 =>
        (if r89 = r153 then
          (if (r96.2 : Int) = 0 then
            (rNormal N x).bind fun r158 =>
            (rSame N r96.1 r158).bind fun r163 =>
            (if r163 = true then
              (if (r115.2 : Int) = r134.2 then
                (rSame N r115.1 r134.1).bind fun r318 =>
                some r318
              else
                some false)
            else
              some false)
          else
            some false)
        else
          some false))
end Go.D
