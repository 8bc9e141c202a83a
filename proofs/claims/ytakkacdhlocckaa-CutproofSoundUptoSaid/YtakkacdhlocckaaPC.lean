/- Plain counterparts, written by a program of mine (wip/tool). -/
import Derived.Test.YtakkacdhlocckaaT18
import Derived.Test.YtakkacdhlocckaaPA
import Derived.Test.YtakkacdhlocckaaPR
import Derived.Test.YtakkacdhlocckaaPB
set_option linter.unusedVariables false
namespace Go.D
open Go Go.X
def negated_b1 (N : Nat) (l : (List Big)) : ((List Big) × Int) → Option (Stp ((List Big) × Int) (List Big))
  | (coefs286, x290) =>
    (if (x290 : Int) < (List.length l : Int) then
      (idx l x290).bind fun x318 =>
      (bNeg N x318).bind fun r344 =>
      (apnd 32 coefs286 [r344]).bind fun x407 =>
      some (Stp.next (x407, (iw (x290 + 1))))
    else
      some (Stp.done coefs286))
def negated (N : Nat) (l : (List Big)) (bound : Big) : Option Ineq :=
  (bNormal N bound).bind fun r11 =>
  (loopM (negated_b1 N l) N (([] : (List Big)), 0)).bind fun ss =>
    match ss with
    | coefs298 =>
      some (Ineq.mk coefs298 r11)
def cloneIneq (N : Nat) (s : (List Ineq)) : Option (List Ineq) :=
  (apnd 56 ([] : (List Ineq)) s).bind fun x16 =>
  some x16
def clipIneq (N : Nat) (s : (List Ineq)) : Option (List Ineq) :=
  some s
def indexIneq_b1 (N : Nat) (f : (Ineq → Option Bool)) (s : (List Ineq)) : Int → Option (Stp Int (Sum Unit Int))
  | x62 =>
    (if (x62 : Int) < (List.length s : Int) then
      (idx s x62).bind fun x71 =>
      (f x71).bind fun r89 =>
      (if r89 = true then
        some (Stp.done (Sum.inr x62))
      else
        some (Stp.next (iw (x62 + 1))))
    else
      some (Stp.done (Sum.inl ())))
def indexIneq (N : Nat) (s : (List Ineq)) (f : (Ineq → Option Bool)) : Option Int :=
  (loopM (indexIneq_b1 N f s) N 0).bind fun ss =>
    match ss with
    | (Sum.inl _) =>
      some (-1)
    | (Sum.inr z100) => some z100
def containsIneq (N : Nat) (s : (List Ineq)) (f : (Ineq → Option Bool)) : Option Bool :=
  (indexIneq N s f).bind fun r1 =>
  some (decide ((r1 : Int) ≥ 0))
def width1 (N : Nat) (q : Ineq) (ca : Int) : Option Bool :=
  some (decide (((List.length q.Coefs : Int) : Int) ≠ ca))
def cwidth (N : Nat) (l : (List Ineq)) : Option (Int × Bool) :=
  (if ((List.length l : Int) : Int) = 0 then
    some (0, true)
  else
    (idx l 0).bind fun x2 =>
    (containsIneq N l (fun y29 => width1 N y29 (List.length x2.Coefs : Int))).bind fun r30 =>
    some ((List.length x2.Coefs : Int), (!r30)))
def cApply_b2 (N : Nat) (x1628 : Use) (x1701 : Ineq) : ((List Big) × Int) → Option (Stp ((List Big) × Int) (List Big))
  | (coefs2092, x2098) =>
    (if (x2098 : Int) < (List.length x1701.Coefs : Int) then
      (idx x1701.Coefs x2098).bind fun x2122 =>
      (idx coefs2092 x2098).bind fun x2148 =>
      (bMul N x1628.N x2122).bind fun r2161 =>
      (bAdd N x2148 r2161).bind fun r2166 =>
      (idx coefs2092 x2098).bind fun x2265 =>
      (upd1 coefs2092 x2098 r2166).bind fun x2271 =>
      some (Stp.next (x2271, (iw (x2098 + 1))))
    else
      some (Stp.done coefs2092))
def cApply_b1 (N : Nat) (l : (List Ineq)) (s : Step) : ((List Big) × Bool × (List Int) × Int) → Option (Stp ((List Big) × Bool × (List Int) × Int) (Sum ((List Big) × Bool × (List Int)) (Ineq × Bool)))
  | (coefs1594, negative1598, digits1599, x1602) =>
    (if (x1602 : Int) < (List.length s.Uses : Int) then
      (idx s.Uses x1602).bind fun x1628 =>
      (((if (x1628.Index : Int) < 0 then
        some true
      else
        (if (x1628.Index : Int) ≥ (List.length l : Int) then
          some true
        else
          (bSign N x1628.N).bind fun r1682 =>
          some (decide ((r1682 : Int) < 0)))) : Option Bool)).bind fun ss =>
        match ss with
        | x1670 =>
          (if x1670 = true then
            some (Stp.done (Sum.inr ((Ineq.mk [] (Big.mk false [])), false)))
          else
            (idx l x1628.Index).bind fun x1701 =>
            (loopM (cApply_b2 N x1628 x1701) N (coefs1594, 0)).bind fun ss =>
              match ss with
              | coefs2104 =>
                (bMul N x1628.N x1701.Bound).bind fun r2294 =>
                (bAdd N (Big.mk negative1598 digits1599) r2294).bind fun r2355 =>
                some (Stp.next (coefs2104, r2355.Negative, r2355.Digits, (iw (x1602 + 1)))))
    else
      some (Stp.done (Sum.inl (coefs1594, negative1598, digits1599))))
def cApply_b3 (N : Nat) (s : Step) (coefs1608 : (List Big)) : ((List Big) × Int) → Option (Stp ((List Big) × Int) (Sum (List Big) (Ineq × Bool)))
  | (coefs2587, x2591) =>
    (if (x2591 : Int) < (List.length coefs1608 : Int) then
      (idx coefs2587 x2591).bind fun x2609 =>
      (bDivFloor N x2609 s.Divisor).bind fun r2631 =>
      (bSign N r2631.2.1).bind fun r2664 =>
      (if (r2664 : Int) ≠ 0 then
        some (Stp.done (Sum.inr ((Ineq.mk [] (Big.mk false [])), false)))
      else
        (idx coefs2587 x2591).bind fun x2677 =>
        (upd1 coefs2587 x2591 r2631.1).bind fun x2683 =>
        some (Stp.next (x2683, (iw (x2591 + 1)))))
    else
      some (Stp.done (Sum.inl coefs2587)))
def cApply (N : Nat) (l : (List Ineq)) (s : Step) : Option (Ineq × Bool) :=
  (cwidth N l).bind fun r11 =>
  (((if (!r11.2) = true then
    some true
  else
    (bSign N s.Divisor).bind fun r37 =>
    some (decide ((r37 : Int) < 1))) : Option Bool)).bind fun ss =>
    match ss with
    | x30 =>
      (if x30 = true then
        some ((Ineq.mk [] (Big.mk false [])), false)
      else
        (mk1 (α := Big) 32 (Big.mk false []) r11.1).bind fun x57 =>
        (loopM (cApply_b1 N l s) N (x57, false, [], 0)).bind fun ss =>
          match ss with
          | (Sum.inl (coefs1608, negative1612, digits1613)) =>
            (loopM (cApply_b3 N s coefs1608) N (coefs1608, 0)).bind fun ss =>
              match ss with
              | (Sum.inl coefs2597) =>
                (bDivFloor N (Big.mk negative1612 digits1613) s.Divisor).bind fun r2707 =>
                some ((Ineq.mk coefs2597 r2707.1), true)
              | (Sum.inr z2735) => some z2735
          | (Sum.inr z2736) => some z2736)
def cContradictory_b1 (N : Nat) (q : Ineq) : Int → Option (Stp Int (Sum Unit Bool))
  | x89 =>
    (if (x89 : Int) < (List.length q.Coefs : Int) then
      (idx q.Coefs x89).bind fun x99 =>
      (bSign N x99).bind fun r125 =>
      (if (r125 : Int) ≠ 0 then
        some (Stp.done (Sum.inr false))
      else
        some (Stp.next (iw (x89 + 1))))
    else
      some (Stp.done (Sum.inl ())))
def cContradictory (N : Nat) (q : Ineq) : Option Bool :=
  (loopM (cContradictory_b1 N q) N 0).bind fun ss =>
    match ss with
    | (Sum.inl _) =>
      (bSign N q.Bound).bind fun r140 =>
      some (decide ((r140 : Int) < 0))
    | (Sum.inr z148) => some z148
def cCheck_b1 (N : Nat) (p : Proof) : ((List Ineq) × Int) → Option (Stp ((List Ineq) × Int) (Sum (List Ineq) Bool))
  | (e225, x229) =>
    (if (x229 : Int) < (List.length p.Steps : Int) then
      (idx p.Steps x229).bind fun x252 =>
      (cApply N e225 x252).bind fun r281 =>
      (if (!r281.2) = true then
        some (Stp.done (Sum.inr false))
      else
        (apnd 56 e225 [r281.1]).bind fun x317 =>
        some (Stp.next (x317, (iw (x229 + 1)))))
    else
      some (Stp.done (Sum.inl e225)))
def cCheck_step (N : Nat) (self : (List Ineq) → Proof → Option Bool) (l : (List Ineq)) (p : Proof) : Option Bool :=
  (cwidth N l).bind fun r6 =>
  (if (!r6.2) = true then
    some false
  else
    (cloneIneq N l).bind fun r15 =>
    (loopM (cCheck_b1 N p) N (r15, 0)).bind fun ss =>
      match ss with
      | (Sum.inl e236) =>
        (if ((List.length p.Children : Int) : Int) = 0 then
          (containsIneq N e236 (fun y344 => cContradictory N y344)).bind fun r345 =>
          some r345
        else
          (if ((List.length p.Children : Int) : Int) = 2 then
            (cwidth N e236).bind fun r358 =>
            (((if ((List.length e236 : Int) : Int) > 0 then
              some (decide (((List.length p.Form : Int) : Int) ≠ r358.1))
            else
              some false) : Option Bool)).bind fun ss =>
              match ss with
              | x370 =>
                (if x370 = true then
                  some false
                else
                  (bNeg N p.Bound).bind fun r392 =>
                  (bOf N 1).bind fun r397 =>
                  (bSub N r392 r397).bind fun r402 =>
                  (negated N p.Form r402).bind fun r407 =>
                  (clipIneq N e236).bind fun r505 =>
                  (apnd 56 r505 [(Ineq.mk p.Form p.Bound)]).bind fun x523 =>
                  (idx p.Children 0).bind fun x538 =>
                  (self x523 x538).bind fun r560 =>
                  (if r560 = true then
                    (apnd 56 r505 [r407]).bind fun x572 =>
                    (idx p.Children 1).bind fun x587 =>
                    (self x572 x587).bind fun r748 =>
                    some r748
                  else
                    some false))
          else
            some false))
      | (Sum.inr z891) => some z891)
def cCheck : Nat → (List Ineq) → Proof → Option Bool
  | 0 => fun _ _ => none
  | N + 1 => cCheck_step N (cCheck N)
def cSize_b1 (N : Nat) (self : Proof → Option Int) (p : Proof) : (Int × Int) → Option (Stp (Int × Int) Int)
  | (n120, x121) =>
    (if (x121 : Int) < (List.length p.Children : Int) then
      (idx p.Children x121).bind fun x134 =>
      (self x134).bind fun r169 =>
      some (Stp.next ((iw (n120 + r169)), (iw (x121 + 1))))
    else
      some (Stp.done n120))
def cSize_step (N : Nat) (self : Proof → Option Int) (p : Proof) : Option Int :=
  (((if ((List.length p.Children : Int) : Int) > 0 then
    some (iw ((List.length p.Steps : Int) + 1))
  else
    some (List.length p.Steps : Int)) : Option Int)).bind fun ss =>
    match ss with
    | n10 =>
      (loopM (cSize_b1 N self p) N (n10, 0)).bind fun ss =>
        match ss with
        | n122 =>
          some n122
def cSize : Nat → Proof → Option Int
  | 0 => fun _ => none
  | N + 1 => cSize_step N (cSize N)
def cSum_b1 (N : Nat) (uses : (List Use)) : ((List Use) × Int) → Option (Stp ((List Use) × Int) (List Use))
  | (uses332, x336) =>
    (if (x336 : Int) < (List.length uses : Int) then
      (idx uses x336).bind fun x364 =>
      (bNormal N x364.N).bind fun r390 =>
      (apnd 40 uses332 [(Use.mk x364.Index r390)]).bind fun x479 =>
      some (Stp.next (x479, (iw (x336 + 1))))
    else
      some (Stp.done uses332))
def cSum (N : Nat) (uses : (List Use)) : Option Proof :=
  (bOf N 1).bind fun r6 =>
  (loopM (cSum_b1 N uses) N (([] : (List Use)), 0)).bind fun ss =>
    match ss with
    | uses344 =>
      some (Proof.mk [(Step.mk uses344 r6)] [] (Big.mk false []) [])
end Go.D
