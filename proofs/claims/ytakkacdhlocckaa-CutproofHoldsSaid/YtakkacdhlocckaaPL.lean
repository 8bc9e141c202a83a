/- Plain counterparts, written by a program of mine (wip/tool). -/
import Derived.Test.YtakkacdhlocckaaT18
import Derived.Test.YtakkacdhlocckaaPA
import Derived.Test.YtakkacdhlocckaaPR
import Derived.Test.YtakkacdhlocckaaPB
import Derived.Test.YtakkacdhlocckaaPC
import Derived.Test.YtakkacdhlocckaaPD
set_option linter.unusedVariables false
namespace Go.D
open Go Go.X
/- disjoint/disjointlaw18.big -/
def lbig (N : Nat) (n : Int) : Option Big :=
  (rOf N n).bind fun r6 =>
  some r6
/- disjoint/disjointlaw18.inequality -/
def linequality (N : Nat) (coef : Int) (bound : Int) : Option Ineq :=
  (lbig N coef).bind fun r6 =>
  (lbig N bound).bind fun r23 =>
  some (Ineq.mk [r6] r23)
/- disjoint/disjointlaw18.use -/
def luse (N : Nat) (i : Int) (n : Int) : Option Use :=
  (lbig N n).bind fun r6 =>
  some (Use.mk i r6)
/- disjoint/disjointlaw18.awake -/
def awake (N : Nat)  : Option Bool :=
  (linequality N 1 2).bind fun r1 =>
  (linequality N (-1) (-5)).bind fun r12 =>
  (linequality N 2 5).bind fun r33 =>
  (linequality N (-2) (-5)).bind fun r44 =>
  (linequality N 3 4).bind fun r65 =>
  (linequality N (-3) (-4)).bind fun r76 =>
  (luse N 0 1).bind fun r97 =>
  (lbig N 2).bind fun r114 =>
  (luse N 1 1).bind fun r123 =>
  (lbig N 2).bind fun r140 =>
  (luse N 2 1).bind fun r149 =>
  (luse N 3 1).bind fun r158 =>
  (lbig N 1).bind fun r176 =>
  (lbig N 1).bind fun r222 =>
  (lbig N 1).bind fun r239 =>
  (luse N 2 3).bind fun r248 =>
  (luse N 1 1).bind fun r257 =>
  (cSum N [r248, r257]).bind fun r275 =>
  (luse N 2 3).bind fun r291 =>
  (luse N 0 1).bind fun r300 =>
  (cSum N [r291, r300]).bind fun r318 =>
  (luse N 0 1).bind fun r356 =>
  (luse N 1 1).bind fun r365 =>
  (cSum N [r356, r365]).bind fun r383 =>
  (cCheck N [r1, r12] r383).bind fun r399 =>
  (if r399 = true then
    (luse N 0 1).bind fun r408 =>
    (luse N 1 1).bind fun r417 =>
    (cSum N [r408, r417]).bind fun r435 =>
    (cCheck N [r33, r44] r435).bind fun r451 =>
    (if (!r451) = true then
      (cCheck N [r33, r44] (Proof.mk [(Step.mk [r97] r114), (Step.mk [r123] r140), (Step.mk [r149, r158] r176)] [] (Big.mk false []) [])).bind fun r460 =>
      (if r460 = true then
        (cCheck N [r65, r76] (Proof.mk [] [r222] r239 [r275, r318])).bind fun r470 =>
        (if r470 = true then
          (cCheck N [r33, r44] (Proof.mk [] [r222] r239 [r275, r318])).bind fun r482 =>
          (if (!r482) = true then
            (cSize N (Proof.mk [(Step.mk [r97] r114), (Step.mk [r123] r140), (Step.mk [r149, r158] r176)] [] (Big.mk false []) [])).bind fun r494 =>
            (if (r494 : Int) = 3 then
              (cSize N (Proof.mk [] [r222] r239 [r275, r318])).bind fun r503 =>
              some (decide ((r503 : Int) = 3))
            else
              some false)
          else
            some false)
        else
          some false)
      else
        some false)
    else
      some false)
  else
    some false)
/- disjoint/disjointlaw18.CutproofSize -/
def lawSize_b1 (N : Nat) (uses : (List Use)) (x4591 : Step) : Int → Option (Stp Int (Sum Unit Bool))
  | x5733 =>
    (if (x5733 : Int) < (List.length x4591.Uses : Int) then
      (idx x4591.Uses x5733).bind fun x5745 =>
      (((idx uses x5733).bind fun x6033 =>
      (if (x5745.Index : Int) ≠ x6033.Index then
        some true
      else
        (idx uses x5733).bind fun x6162 =>
        (rCompare N x5745.N x6162.N).bind fun r6286 =>
        some (decide ((r6286 : Int) ≠ 0))) : Option Bool)).bind fun ss =>
        match ss with
        | x6030 =>
          (if x6030 = true then
            some (Stp.done (Sum.inr false))
          else
            some (Stp.next (iw (x5733 + 1))))
    else
      some (Stp.done (Sum.inl ())))
def lawSize (N : Nat) (p : Proof) (uses : (List Use)) : Option Bool :=
  (((awake N ).bind fun r31 =>
  (if (!r31) = true then
    some true
  else
    (rSmallProof N p).bind fun r39 =>
    (if (!r39) = true then
      some true
    else
      some (decide (((List.length uses : Int) : Int) > 12)))) : Option Bool)).bind fun ss =>
    match ss with
    | x28 =>
      (if x28 = true then
        (awake N ).bind fun r56 =>
        some r56
      else
        (cSum N uses).bind fun r63 =>
        (((cSize N p).bind fun r2331 =>
        (rSize N p).bind fun r2334 =>
        (if (r2331 : Int) ≠ r2334 then
          some true
        else
          (if ((List.length r63.Steps : Int) : Int) ≠ 1 then
            some true
          else
            (if ((List.length r63.Children : Int) : Int) ≠ 0 then
              some true
            else
              (if ((List.length r63.Form : Int) : Int) ≠ 0 then
                some true
              else
                (if ((List.length r63.Bound.Digits : Int) : Int) ≠ 0 then
                  some true
                else
                  (idx r63.Steps 0).bind fun x3907 =>
                  (lbig N 1).bind fun r3926 =>
                  (rSame N x3907.Divisor r3926).bind fun r3931 =>
                  (if (!r3931) = true then
                    some true
                  else
                    (idx r63.Steps 0).bind fun x4252 =>
                    some (decide (((List.length x4252.Uses : Int) : Int) ≠ (List.length uses : Int))))))))) : Option Bool)).bind fun ss =>
          match ss with
          | x2328 =>
            (if x2328 = true then
              some false
            else
              (idx r63.Steps 0).bind fun x4591 =>
              (loopM (lawSize_b1 N uses x4591) N 0).bind fun ss =>
                match ss with
                | (Sum.inl _) =>
                  some true
                | (Sum.inr z6305) => some z6305))
/- disjoint/disjointlaw18.CutproofStep -/
def lawStep (N : Nat) (l : (List Ineq)) (s : Step) (x : (List Big)) : Option Bool :=
  (((awake N ).bind fun r66 =>
  (if (!r66) = true then
    some true
  else
    (apnd 56 [(Ineq.mk x (Big.mk false []))] l).bind fun x83 =>
    (rSmall N x83).bind fun r104 =>
    (if (!r104) = true then
      some true
    else
      (rSmallStep N s).bind fun r116 =>
      some (!r116))) : Option Bool)).bind fun ss =>
    match ss with
    | x63 =>
      (if x63 = true then
        (awake N ).bind fun r132 =>
        some r132
      else
        (cApply N l s).bind fun r139 =>
        (if (!r139.2) = true then
          some true
        else
          (if ((List.length l : Int) : Int) = 0 then
            some true
          else
            (rAll N l x).bind fun r167 =>
            (if (!r167) = true then
              some true
            else
              (rHolds N r139.1 x).bind fun r176 =>
              some r176))))
/- disjoint/disjointlaw18.CutproofSound -/
def lawSound (N : Nat) (l : (List Ineq)) (p : Proof) (x : (List Big)) : Option Bool :=
  (((awake N ).bind fun r68 =>
  (if (!r68) = true then
    some true
  else
    (apnd 56 [(Ineq.mk x (Big.mk false []))] l).bind fun x85 =>
    (rSmall N x85).bind fun r106 =>
    (if (!r106) = true then
      some true
    else
      (rSmallProof N p).bind fun r118 =>
      some (!r118))) : Option Bool)).bind fun ss =>
    match ss with
    | x65 =>
      (if x65 = true then
        (awake N ).bind fun r136 =>
        some r136
      else
        (cCheck N l p).bind fun r143 =>
        (if (!r143) = true then
          some true
        else
          (if ((List.length l : Int) : Int) = 0 then
            some true
          else
            (rAll N l x).bind fun r158 =>
            some (!r158))))
/- disjoint/disjointlaw18.CutproofHolds -/
def lawHolds (N : Nat) (q : Ineq) (x : (List Big)) : Option Bool :=
  (((awake N ).bind fun r37 =>
  (if (!r37) = true then
    some true
  else
    (rSmall N [q, (Ineq.mk x (Big.mk false []))]).bind fun r56 =>
    some (!r56)) : Option Bool)).bind fun ss =>
    match ss with
    | x34 =>
      (if x34 = true then
        (awake N ).bind fun r71 =>
        some r71
      else
        (cHolds N q x).bind fun r78 =>
        (rHolds N q x).bind fun r81 =>
        (if (r78 == r81) = true then
          (cContradictory N q).bind fun r85 =>
          (rBad N q).bind fun r172 =>
          some (r85 == r172)
        else
          some false))
/- disjoint/disjointlaw18.CutproofOf -/
def lawOf_b1 (N : Nat) (l : (List Constraint)) : Int → Option (Stp Int (Sum Unit Bool))
  | x99 =>
    (if (x99 : Int) < (List.length l : Int) then
      (idx l x99).bind fun x108 =>
      (if ((List.length x108.Linear.Coefs : Int) : Int) > 8 then
        some (Stp.done (Sum.inr true))
      else
        some (Stp.next (iw (x99 + 1))))
    else
      some (Stp.done (Sum.inl ())))
def lawOf_b2 (N : Nat) (l : (List Constraint)) (n : Int) : Int → Option (Stp Int (Sum Unit Bool))
  | x368 =>
    (if (x368 : Int) < (List.length l : Int) then
      (idx l x368).bind fun x377 =>
      (cOf N x377 n).bind fun r403 =>
      (rIOf N x377 n).bind fun r460 =>
      (rSames N r403 r460).bind fun r476 =>
      (if (!r476) = true then
        some (Stp.done (Sum.inr false))
      else
        some (Stp.next (iw (x368 + 1))))
    else
      some (Stp.done (Sum.inl ())))
def lawOf (N : Nat) (l : (List Constraint)) (n : Int) : Option Bool :=
  (((awake N ).bind fun r13 =>
  (if (!r13) = true then
    some true
  else
    some (decide (((List.length l : Int) : Int) > 8))) : Option Bool)).bind fun ss =>
    match ss with
    | x10 =>
      (if x10 = true then
        (awake N ).bind fun r26 =>
        some r26
      else
        (loopM (lawOf_b1 N l) N 0).bind fun ss =>
          match ss with
          | (Sum.inl _) =>
            (loopM (lawOf_b2 N l n) N 0).bind fun ss =>
              match ss with
              | (Sum.inl _) =>
                (cSystem N l n).bind fun r491 =>
                (rSystem N l n).bind fun r507 =>
                (rSames N r491 r507).bind fun r523 =>
                some r523
              | (Sum.inr z531) => some z531
          | (Sum.inr z532) => some z532)
/- disjoint/disjointlaw18.CutproofConstraint -/
def lawConstraint_b1 (N : Nat) (c : Constraint) (x : (List Int)) : (Big × Int) → Option (Stp (Big × Int) Big)
  | (sum407, x410) =>
    (if (x410 : Int) < (List.length c.Linear.Coefs : Int) then
      (idx c.Linear.Coefs x410).bind fun x428 =>
      (lbig N x428.N).bind fun r451 =>
      (idx x x428.Var).bind fun x456 =>
      (lbig N (iw x456)).bind fun r470 =>
      (rMul N r451 r470).bind fun r475 =>
      (rAdd N sum407 r475).bind fun r570 =>
      some (Stp.next (r570, (iw (x410 + 1))))
    else
      some (Stp.done sum407))
def lawConstraint_b2 (N : Nat) (x : (List Int)) : ((List Big) × Int) → Option (Stp ((List Big) × Int) (List Big))
  | (values723, x727) =>
    (if (x727 : Int) < (List.length x : Int) then
      (idx x x727).bind fun x755 =>
      (lbig N (iw x755)).bind fun r769 =>
      (apnd 32 values723 [r769]).bind fun x786 =>
      some (Stp.next (x786, (iw (x727 + 1))))
    else
      some (Stp.done values723))
def lawConstraint_b3 (N : Nat) (values735 : (List Big)) (r812 : (List Ineq)) : (Bool × Int) → Option (Stp (Bool × Int) Bool)
  | (all926, x928) =>
    (if (x928 : Int) < (List.length r812 : Int) then
      (idx r812 x928).bind fun x943 =>
      (if all926 = true then
        (cHolds N x943 values735).bind fun r972 =>
        some (Stp.next (r972, (iw (x928 + 1))))
      else
        some (Stp.next (false, (iw (x928 + 1)))))
    else
      some (Stp.done all926))
def lawConstraint (N : Nat) (c : Constraint) (x : (List Int)) : Option Bool :=
  (((awake N ).bind fun r28 =>
  (if (!r28) = true then
    some true
  else
    (if ((List.length x : Int) : Int) > 6 then
      some true
    else
      (rRight N c (List.length x : Int)).bind fun r38 =>
      some (!r38))) : Option Bool)).bind fun ss =>
    match ss with
    | x25 =>
      (if x25 = true then
        (awake N ).bind fun r50 =>
        some r50
      else
        (rOf N c.Linear.Const).bind fun r57 =>
        (loopM (lawConstraint_b1 N c x) N (r57, 0)).bind fun ss =>
          match ss with
          | sum413 =>
            (loopM (lawConstraint_b2 N x) N (([] : (List Big)), 0)).bind fun ss =>
              match ss with
              | values735 =>
                (cOf N c (List.length x : Int)).bind fun r812 =>
                (loopM (lawConstraint_b3 N values735 r812) N (true, 0)).bind fun ss =>
                  match ss with
                  | all931 =>
                    (rSign N sum413).bind fun r994 =>
                    (if (r994 : Int) = 0 then
                      some (all931 == true)
                    else
                      (if (r994 : Int) < 0 then
                        some (all931 == (!c.Equal))
                      else
                        some (all931 == false))))
end Go.D
