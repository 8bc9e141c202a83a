/- Plain counterparts, written by a program of mine (wip/tool). -/
import Derived.Test.YtakkacdhlocckaaT18
import Derived.Test.YtakkacdhlocckaaPA
import Derived.Test.YtakkacdhlocckaaPR
import Derived.Test.YtakkacdhlocckaaPB
import Derived.Test.YtakkacdhlocckaaPC
import Derived.Test.YtakkacdhlocckaaPD
set_option linter.unusedVariables false
namespace Go.D
open Go Go.X
def lbig (N : Nat) (n : Int) : Option Big :=
  (rOf N n).bind fun r6 =>
  some r6
def linequality (N : Nat) (coef : Int) (bound : Int) : Option Ineq :=
  (lbig N coef).bind fun r6 =>
  (lbig N bound).bind fun r23 =>
  some (Ineq.mk [r6] r23)
def luse (N : Nat) (i : Int) (n : Int) : Option Use :=
  (lbig N n).bind fun r6 =>
  some (Use.mk i r6)
def awake (N : Nat)  : Option Bool :=
  (linequality N 1 2).bind fun r1 =>
  (linequality N (-1) (-5)).bind fun r12 =>
  (linequality N 2 5).bind fun r33 =>
  (linequality N (-2) (-5)).bind fun r44 =>
  (linequality N 3 4).bind fun r65 =>
  (linequality N (-3) (-4)).bind fun r76 =>
  (luse N 0 1).bind fun r97 =>
  (lbig N 2).bind fun r114 =>
  (luse N 1 1).bind fun r123 =>
  (lbig N 2).bind fun r140 =>
  (luse N 2 1).bind fun r149 =>
  (luse N 3 1).bind fun r158 =>
  (lbig N 1).bind fun r176 =>
  (lbig N 1).bind fun r222 =>
  (lbig N 1).bind fun r239 =>
  (luse N 2 3).bind fun r248 =>
  (luse N 1 1).bind fun r257 =>
  (cSum N [r248, r257]).bind fun r275 =>
  (luse N 2 3).bind fun r291 =>
  (luse N 0 1).bind fun r300 =>
  (cSum N [r291, r300]).bind fun r318 =>
  (luse N 0 1).bind fun r356 =>
  (luse N 1 1).bind fun r365 =>
  (cSum N [r356, r365]).bind fun r383 =>
  (cCheck N [r1, r12] r383).bind fun r399 =>
  (if r399 = true then
    (luse N 0 1).bind fun r408 =>
    (luse N 1 1).bind fun r417 =>
    (cSum N [r408, r417]).bind fun r435 =>
    (cCheck N [r33, r44] r435).bind fun r451 =>
    (if (!r451) = true then
      (cCheck N [r33, r44] (Proof.mk [(Step.mk [r97] r114), (Step.mk [r123] r140), (Step.mk [r149, r158] r176)] [] (Big.mk false []) [])).bind fun r460 =>
      (if r460 = true then
        (cCheck N [r65, r76] (Proof.mk [] [r222] r239 [r275, r318])).bind fun r470 =>
        (if r470 = true then
          (cCheck N [r33, r44] (Proof.mk [] [r222] r239 [r275, r318])).bind fun r482 =>
          (if (!r482) = true then
            (cSize N (Proof.mk [(Step.mk [r97] r114), (Step.mk [r123] r140), (Step.mk [r149, r158] r176)] [] (Big.mk false []) [])).bind fun r494 =>
            (if (r494 : Int) = 3 then
              (cSize N (Proof.mk [] [r222] r239 [r275, r318])).bind fun r503 =>
              some (decide ((r503 : Int) = 3))
            else
              some false)
          else
            some false)
        else
          some false)
      else
        some false)
    else
      some false)
  else
    some false)
def lawSound (N : Nat) (l : (List Ineq)) (p : Proof) (x : (List Big)) : Option Bool :=
  (((awake N ).bind fun r68 =>
  (if (!r68) = true then
    some true
  else
    (apnd 56 [(Ineq.mk x (Big.mk false []))] l).bind fun x85 =>
    (rSmall N x85).bind fun r106 =>
    (if (!r106) = true then
      some true
    else
      (rSmallProof N p).bind fun r118 =>
      some (!r118))) : Option Bool)).bind fun ss =>
    match ss with
    | x65 =>
      (if x65 = true then
        (awake N ).bind fun r136 =>
        some r136
      else
        (cCheck N l p).bind fun r143 =>
        (if (!r143) = true then
          some true
        else
          (if ((List.length l : Int) : Int) = 0 then
            some true
          else
            (rAll N l x).bind fun r158 =>
            some (!r158))))
end Go.D
