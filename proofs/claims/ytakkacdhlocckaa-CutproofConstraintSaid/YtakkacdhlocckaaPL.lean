/- Plain counterparts, written by a program of mine (wip/tool). -/
import Derived.Test.YtakkacdhlocckaaT18
import Derived.Test.YtakkacdhlocckaaPA
import Derived.Test.YtakkacdhlocckaaPR
import Derived.Test.YtakkacdhlocckaaPB
import Derived.Test.YtakkacdhlocckaaPC
import Derived.Test.YtakkacdhlocckaaPD
set_option linter.unusedVariables false
namespace Go.D
open Go Go.X
def lbig (N : Nat) (n : Int) : Option Big :=
  (rOf N n).bind fun r6 =>
  some r6
def linequality (N : Nat) (coef : Int) (bound : Int) : Option Ineq :=
  (lbig N coef).bind fun r6 =>
  (lbig N bound).bind fun r23 =>
  some (Ineq.mk [r6] r23)
def luse (N : Nat) (i : Int) (n : Int) : Option Use :=
  (lbig N n).bind fun r6 =>
  some (Use.mk i r6)
def awake (N : Nat)  : Option Bool :=
  (linequality N 1 2).bind fun r1 =>
  (linequality N (-1) (-5)).bind fun r12 =>
  (linequality N 2 5).bind fun r33 =>
  (linequality N (-2) (-5)).bind fun r44 =>
  (linequality N 3 4).bind fun r65 =>
  (linequality N (-3) (-4)).bind fun r76 =>
  (luse N 0 1).bind fun r97 =>
  (lbig N 2).bind fun r114 =>
  (luse N 1 1).bind fun r123 =>
  (lbig N 2).bind fun r140 =>
  (luse N 2 1).bind fun r149 =>
  (luse N 3 1).bind fun r158 =>
  (lbig N 1).bind fun r176 =>
  (lbig N 1).bind fun r222 =>
  (lbig N 1).bind fun r239 =>
  (luse N 2 3).bind fun r248 =>
  (luse N 1 1).bind fun r257 =>
  (cSum N [r248, r257]).bind fun r275 =>
  (luse N 2 3).bind fun r291 =>
  (luse N 0 1).bind fun r300 =>
  (cSum N [r291, r300]).bind fun r318 =>
  (luse N 0 1).bind fun r356 =>
  (luse N 1 1).bind fun r365 =>
  (cSum N [r356, r365]).bind fun r383 =>
  (cCheck N [r1, r12] r383).bind fun r399 =>
  (if r399 = true then
    (luse N 0 1).bind fun r408 =>
    (luse N 1 1).bind fun r417 =>
    (cSum N [r408, r417]).bind fun r435 =>
    (cCheck N [r33, r44] r435).bind fun r451 =>
    (if (!r451) = true then
      (cCheck N [r33, r44] (Proof.mk [(Step.mk [r97] r114), (Step.mk [r123] r140), (Step.mk [r149, r158] r176)] [] (Big.mk false []) [])).bind fun r460 =>
      (if r460 = true then
        (cCheck N [r65, r76] (Proof.mk [] [r222] r239 [r275, r318])).bind fun r470 =>
        (if r470 = true then
          (cCheck N [r33, r44] (Proof.mk [] [r222] r239 [r275, r318])).bind fun r482 =>
          (if (!r482) = true then
            (cSize N (Proof.mk [(Step.mk [r97] r114), (Step.mk [r123] r140), (Step.mk [r149, r158] r176)] [] (Big.mk false []) [])).bind fun r494 =>
            (if (r494 : Int) = 3 then
              (cSize N (Proof.mk [] [r222] r239 [r275, r318])).bind fun r503 =>
              some (decide ((r503 : Int) = 3))
            else
              some false)
          else
            some false)
        else
          some false)
      else
        some false)
    else
      some false)
  else
    some false)
def lawConstraint_b1 (N : Nat) (c : Constraint) (x : (List Int)) : (Big × Int) → Option (Stp (Big × Int) Big)
  | (sum407, x410) =>
    (if (x410 : Int) < (List.length c.Linear.Coefs : Int) then
      (idx c.Linear.Coefs x410).bind fun x428 =>
      (lbig N x428.N).bind fun r451 =>
      (idx x x428.Var).bind fun x456 =>
      (lbig N (iw x456)).bind fun r470 =>
      (rMul N r451 r470).bind fun r475 =>
      (rAdd N sum407 r475).bind fun r570 =>
      some (Stp.next (r570, (iw (x410 + 1))))
    else
      some (Stp.done sum407))
def lawConstraint_b2 (N : Nat) (x : (List Int)) : ((List Big) × Int) → Option (Stp ((List Big) × Int) (List Big))
  | (values723, x727) =>
    (if (x727 : Int) < (List.length x : Int) then
      (idx x x727).bind fun x755 =>
      (lbig N (iw x755)).bind fun r769 =>
      (apnd 32 values723 [r769]).bind fun x786 =>
      some (Stp.next (x786, (iw (x727 + 1))))
    else
      some (Stp.done values723))
def lawConstraint_b3 (N : Nat) (values735 : (List Big)) (r812 : (List Ineq)) : (Bool × Int) → Option (Stp (Bool × Int) Bool)
  | (all926, x928) =>
    (if (x928 : Int) < (List.length r812 : Int) then
      (idx r812 x928).bind fun x943 =>
      (if all926 = true then
        (cHolds N x943 values735).bind fun r972 =>
        some (Stp.next (r972, (iw (x928 + 1))))
      else
        some (Stp.next (false, (iw (x928 + 1)))))
    else
      some (Stp.done all926))
def lawConstraint (N : Nat) (c : Constraint) (x : (List Int)) : Option Bool :=
  (((awake N ).bind fun r28 =>
  (if (!r28) = true then
    some true
  else
    (if ((List.length x : Int) : Int) > 6 then
      some true
    else
      (rRight N c (List.length x : Int)).bind fun r38 =>
      some (!r38))) : Option Bool)).bind fun ss =>
    match ss with
    | x25 =>
      (if x25 = true then
        (awake N ).bind fun r50 =>
        some r50
      else
        (rOf N c.Linear.Const).bind fun r57 =>
        (loopM (lawConstraint_b1 N c x) N (r57, 0)).bind fun ss =>
          match ss with
          | sum413 =>
            (loopM (lawConstraint_b2 N x) N (([] : (List Big)), 0)).bind fun ss =>
              match ss with
              | values735 =>
                (cOf N c (List.length x : Int)).bind fun r812 =>
                (loopM (lawConstraint_b3 N values735 r812) N (true, 0)).bind fun ss =>
                  match ss with
                  | all931 =>
                    (rSign N sum413).bind fun r994 =>
                    (if (r994 : Int) = 0 then
                      some (all931 == true)
                    else
                      (if (r994 : Int) < 0 then
                        some (all931 == (!c.Equal))
                      else
                        some (all931 == false))))
end Go.D
