/- Plain counterparts, written by a program of mine (wip/tool). -/
import Derived.Test.YtakkacdhlocckaaT18
import Derived.Test.YtakkacdhlocckaaPA
import Derived.Test.YtakkacdhlocckaaPR
import Derived.Test.YtakkacdhlocckaaPB
import Derived.Test.YtakkacdhlocckaaPC
import Derived.Test.YtakkacdhlocckaaPD
set_option linter.unusedVariables false
namespace Go.D
open Go Go.X
def lbig (N : Nat) (n : Int) : Option Big :=
  (rOf N n).bind fun r6 =>
  some r6
def linequality (N : Nat) (coef : Int) (bound : Int) : Option Ineq :=
  (lbig N coef).bind fun r6 =>
  (lbig N bound).bind fun r23 =>
  some (Ineq.mk [r6] r23)
def luse (N : Nat) (i : Int) (n : Int) : Option Use :=
  (lbig N n).bind fun r6 =>
  some (Use.mk i r6)
def awake (N : Nat)  : Option Bool :=
  (linequality N 1 2).bind fun r1 =>
  (linequality N (-1) (-5)).bind fun r12 =>
  (linequality N 2 5).bind fun r33 =>
  (linequality N (-2) (-5)).bind fun r44 =>
  (linequality N 3 4).bind fun r65 =>
  (linequality N (-3) (-4)).bind fun r76 =>
  (luse N 0 1).bind fun r97 =>
  (lbig N 2).bind fun r114 =>
  (luse N 1 1).bind fun r123 =>
  (lbig N 2).bind fun r140 =>
  (luse N 2 1).bind fun r149 =>
  (luse N 3 1).bind fun r158 =>
  (lbig N 1).bind fun r176 =>
  (lbig N 1).bind fun r222 =>
  (lbig N 1).bind fun r239 =>
  (luse N 2 3).bind fun r248 =>
  (luse N 1 1).bind fun r257 =>
  (cSum N [r248, r257]).bind fun r275 =>
  (luse N 2 3).bind fun r291 =>
  (luse N 0 1).bind fun r300 =>
  (cSum N [r291, r300]).bind fun r318 =>
  (luse N 0 1).bind fun r356 =>
  (luse N 1 1).bind fun r365 =>
  (cSum N [r356, r365]).bind fun r383 =>
  (cCheck N [r1, r12] r383).bind fun r399 =>
  (if r399 = true then
    (luse N 0 1).bind fun r408 =>
    (luse N 1 1).bind fun r417 =>
    (cSum N [r408, r417]).bind fun r435 =>
    (cCheck N [r33, r44] r435).bind fun r451 =>
    (if (!r451) = true then
      (cCheck N [r33, r44] (Proof.mk [(Step.mk [r97] r114), (Step.mk [r123] r140), (Step.mk [r149, r158] r176)] [] (Big.mk false []) [])).bind fun r460 =>
      (if r460 = true then
        (cCheck N [r65, r76] (Proof.mk [] [r222] r239 [r275, r318])).bind fun r470 =>
        (if r470 = true then
          (cCheck N [r33, r44] (Proof.mk [] [r222] r239 [r275, r318])).bind fun r482 =>
          (if (!r482) = true then
            (cSize N (Proof.mk [(Step.mk [r97] r114), (Step.mk [r123] r140), (Step.mk [r149, r158] r176)] [] (Big.mk false []) [])).bind fun r494 =>
            (if (r494 : Int) = 3 then
              (cSize N (Proof.mk [] [r222] r239 [r275, r318])).bind fun r503 =>
              some (decide ((r503 : Int) = 3))
            else
              some false)
          else
            some false)
        else
          some false)
      else
        some false)
    else
      some false)
  else
    some false)
def lawSize_b1 (N : Nat) (uses : (List Use)) (x4591 : Step) : Int → Option (Stp Int (Sum Unit Bool))
  | x5733 =>
    (if (x5733 : Int) < (List.length x4591.Uses : Int) then
      (idx x4591.Uses x5733).bind fun x5745 =>
      (((idx uses x5733).bind fun x6033 =>
      (if (x5745.Index : Int) ≠ x6033.Index then
        some true
      else
        (idx uses x5733).bind fun x6162 =>
        (rCompare N x5745.N x6162.N).bind fun r6286 =>
        some (decide ((r6286 : Int) ≠ 0))) : Option Bool)).bind fun ss =>
        match ss with
        | x6030 =>
          (if x6030 = true then
            some (Stp.done (Sum.inr false))
          else
            some (Stp.next (iw (x5733 + 1))))
    else
      some (Stp.done (Sum.inl ())))
def lawSize (N : Nat) (p : Proof) (uses : (List Use)) : Option Bool :=
  (((awake N ).bind fun r31 =>
  (if (!r31) = true then
    some true
  else
    (rSmallProof N p).bind fun r39 =>
    (if (!r39) = true then
      some true
    else
      some (decide (((List.length uses : Int) : Int) > 12)))) : Option Bool)).bind fun ss =>
    match ss with
    | x28 =>
      (if x28 = true then
        (awake N ).bind fun r56 =>
        some r56
      else
        (cSum N uses).bind fun r63 =>
        (((cSize N p).bind fun r2331 =>
        (rSize N p).bind fun r2334 =>
        (if (r2331 : Int) ≠ r2334 then
          some true
        else
          (if ((List.length r63.Steps : Int) : Int) ≠ 1 then
            some true
          else
            (if ((List.length r63.Children : Int) : Int) ≠ 0 then
              some true
            else
              (if ((List.length r63.Form : Int) : Int) ≠ 0 then
                some true
              else
                (if ((List.length r63.Bound.Digits : Int) : Int) ≠ 0 then
                  some true
                else
                  (idx r63.Steps 0).bind fun x3907 =>
                  (lbig N 1).bind fun r3926 =>
                  (rSame N x3907.Divisor r3926).bind fun r3931 =>
                  (if (!r3931) = true then
                    some true
                  else
                    (idx r63.Steps 0).bind fun x4252 =>
                    some (decide (((List.length x4252.Uses : Int) : Int) ≠ (List.length uses : Int))))))))) : Option Bool)).bind fun ss =>
          match ss with
          | x2328 =>
            (if x2328 = true then
              some false
            else
              (idx r63.Steps 0).bind fun x4591 =>
              (loopM (lawSize_b1 N uses x4591) N 0).bind fun ss =>
                match ss with
                | (Sum.inl _) =>
                  some true
                | (Sum.inr z6305) => some z6305))
end Go.D
