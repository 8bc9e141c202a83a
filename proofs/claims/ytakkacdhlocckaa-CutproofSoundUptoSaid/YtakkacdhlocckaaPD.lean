/- Plain counterparts, written by a program of mine (wip/tool). -/
import Derived.Test.YtakkacdhlocckaaT18
import Derived.Test.YtakkacdhlocckaaPA
import Derived.Test.YtakkacdhlocckaaPR
import Derived.Test.YtakkacdhlocckaaPB
import Derived.Test.YtakkacdhlocckaaPC
set_option linter.unusedVariables false
namespace Go.D
open Go Go.X
def rzero (N : Nat) (n : Int) : Option Ineq :=
  (mk1 (α := Big) 32 (Big.mk false []) n).bind fun x7 =>
  some (Ineq.mk x7 (Big.mk false ([] : (List Int))))
def rflip_b1 (N : Nat) (q : Ineq) : ((List Big) × Int) → Option (Stp ((List Big) × Int) (List Big))
  | (coefs321, i325) =>
    (if (i325 : Int) < (List.length q.Coefs : Int) then
      (idx q.Coefs i325).bind fun x354 =>
      (rNeg N x354).bind fun r369 =>
      (apnd 32 coefs321 [r369]).bind fun x456 =>
      some (Stp.next (x456, (iw (i325 + 1))))
    else
      some (Stp.done coefs321))
def rflip (N : Nat) (q : Ineq) (bound : Big) : Option Ineq :=
  (rNormal N bound).bind fun r16 =>
  (loopM (rflip_b1 N q) N (([] : (List Big)), 0)).bind fun ss =>
    match ss with
    | coefs333 =>
      some (Ineq.mk coefs333 r16)
def rEven_b1 (N : Nat) (l : (List Ineq)) : Int → Option (Stp Int (Sum Unit Bool))
  | i242 =>
    (if (i242 : Int) < (List.length l : Int) then
      (idx l i242).bind fun x252 =>
      (idx l 0).bind fun x270 =>
      (if ((List.length x252.Coefs : Int) : Int) ≠ (List.length x270.Coefs : Int) then
        some (Stp.done (Sum.inr false))
      else
        some (Stp.next (iw (i242 + 1))))
    else
      some (Stp.done (Sum.inl ())))
def rEven (N : Nat) (l : (List Ineq)) : Option Bool :=
  (loopM (rEven_b1 N l) N 0).bind fun ss =>
    match ss with
    | (Sum.inl _) =>
      some true
    | (Sum.inr z370) => some z370
def rApply_b2 (N : Nat) (n86 : Int) (x1786 : Use) (x1858 : Ineq) : ((List Big) × Int) → Option (Stp ((List Big) × Int) (List Big))
  | (coefs2279, k2285) =>
    (if (k2285 : Int) < n86 then
      (idx coefs2279 k2285).bind fun x2309 =>
      (idx x1858.Coefs k2285).bind fun x2323 =>
      (rMul N x2323 x1786.N).bind fun r2339 =>
      (rAdd N x2309 r2339).bind fun r2344 =>
      (idx coefs2279 k2285).bind fun x2467 =>
      (upd1 coefs2279 k2285 r2344).bind fun x2473 =>
      some (Stp.next (x2473, (iw (k2285 + 1))))
    else
      some (Stp.done coefs2279))
def rApply_b1 (N : Nat) (l : (List Ineq)) (s : Step) (n86 : Int) : ((List Big) × Bool × (List Int) × Int) → Option (Stp ((List Big) × Bool × (List Int) × Int) (Sum ((List Big) × Bool × (List Int)) (Ineq × Bool)))
  | (coefs1745, negative1749, digits1750, i1753) =>
    (if (i1753 : Int) < (List.length s.Uses : Int) then
      (idx s.Uses i1753).bind fun x1786 =>
      (((if (x1786.Index : Int) < 0 then
        some true
      else
        (if (x1786.Index : Int) ≥ (List.length l : Int) then
          some true
        else
          (rSign N x1786.N).bind fun r1839 =>
          some (decide ((r1839 : Int) < 0)))) : Option Bool)).bind fun ss =>
        match ss with
        | x1827 =>
          (if x1827 = true then
            some (Stp.done (Sum.inr ((Ineq.mk [] (Big.mk false [])), false)))
          else
            (idx l x1786.Index).bind fun x1858 =>
            (loopM (rApply_b2 N n86 x1786 x1858) N (coefs1745, 0)).bind fun ss =>
              match ss with
              | coefs2291 =>
                (rMul N x1858.Bound x1786.N).bind fun r2493 =>
                (rAdd N (Big.mk negative1749 digits1750) r2493).bind fun r2554 =>
                some (Stp.next (coefs2291, r2554.Negative, r2554.Digits, (iw (i1753 + 1)))))
    else
      some (Stp.done (Sum.inl (coefs1745, negative1749, digits1750))))
def rApply_b3 (N : Nat) (s : Step) (n86 : Int) : ((List Big) × Int) → Option (Stp ((List Big) × Int) (Sum (List Big) (Ineq × Bool)))
  | (coefs2968, k2972) =>
    (if (k2972 : Int) < n86 then
      (idx coefs2968 k2972).bind fun x2990 =>
      (rDivFloor N x2990 s.Divisor).bind fun r3004 =>
      (rSign N r3004.2.1).bind fun r3136 =>
      (if (r3136 : Int) ≠ 0 then
        some (Stp.done (Sum.inr ((Ineq.mk [] (Big.mk false [])), false)))
      else
        (idx coefs2968 k2972).bind fun x3149 =>
        (upd1 coefs2968 k2972 r3004.1).bind fun x3155 =>
        some (Stp.next (x3155, (iw (k2972 + 1)))))
    else
      some (Stp.done (Sum.inl coefs2968)))
def rApply (N : Nat) (l : (List Ineq)) (s : Step) : Option (Ineq × Bool) :=
  (((rEven N l).bind fun r33 =>
  (if (!r33) = true then
    some true
  else
    (rSign N s.Divisor).bind fun r45 =>
    some (decide ((r45 : Int) ≤ 0))) : Option Bool)).bind fun ss =>
    match ss with
    | x30 =>
      (if x30 = true then
        some ((Ineq.mk [] (Big.mk false [])), false)
      else
        (((if ((List.length l : Int) : Int) > 0 then
          (idx l 0).bind fun x90 =>
          some (List.length x90.Coefs : Int)
        else
          some 0) : Option Int)).bind fun ss =>
          match ss with
          | n86 =>
            (rzero N n86).bind fun r111 =>
            (loopM (rApply_b1 N l s n86) N (r111.Coefs, r111.Bound.Negative, r111.Bound.Digits, 0)).bind fun ss =>
              match ss with
              | (Sum.inl (coefs1759, negative1763, digits1764)) =>
                (loopM (rApply_b3 N s n86) N (coefs1759, 0)).bind fun ss =>
                  match ss with
                  | (Sum.inl coefs2978) =>
                    (rDivFloor N (Big.mk negative1763 digits1764) s.Divisor).bind fun r3179 =>
                    some ((Ineq.mk coefs2978 r3179.1), true)
                  | (Sum.inr z3207) => some z3207
              | (Sum.inr z3208) => some z3208)
def rBad_b1 (N : Nat) (q : Ineq) : Int → Option (Stp Int (Sum Unit Bool))
  | i66 =>
    (if (i66 : Int) < (List.length q.Coefs : Int) then
      (idx q.Coefs i66).bind fun x77 =>
      (rSign N x77).bind fun r92 =>
      (if (r92 : Int) ≠ 0 then
        some (Stp.done (Sum.inr false))
      else
        some (Stp.next (iw (i66 + 1))))
    else
      some (Stp.done (Sum.inl ())))
def rBad (N : Nat) (q : Ineq) : Option Bool :=
  (loopM (rBad_b1 N q) N 0).bind fun ss =>
    match ss with
    | (Sum.inl _) =>
      (rSign N q.Bound).bind fun r103 =>
      some (decide ((r103 : Int) < 0))
    | (Sum.inr z111) => some z111
def rCheck_b1 (N : Nat) (p : Proof) : ((List Ineq) × Int) → Option (Stp ((List Ineq) × Int) (Sum (List Ineq) Bool))
  | (all211, i215) =>
    (if (i215 : Int) < (List.length p.Steps : Int) then
      (idx p.Steps i215).bind fun x239 =>
      (rApply N all211 x239).bind fun r256 =>
      (if (!r256.2) = true then
        some (Stp.done (Sum.inr false))
      else
        (apnd 56 all211 [r256.1]).bind fun x289 =>
        some (Stp.next (x289, (iw (i215 + 1)))))
    else
      some (Stp.done (Sum.inl all211)))
def rCheck_b2 (N : Nat) (all222 : (List Ineq)) : Int → Option (Stp Int (Sum Unit Bool))
  | i378 =>
    (if (i378 : Int) < (List.length all222 : Int) then
      (idx all222 i378).bind fun x391 =>
      (rBad N x391).bind fun r407 =>
      (if r407 = true then
        some (Stp.done (Sum.inr true))
      else
        some (Stp.next (iw (i378 + 1))))
    else
      some (Stp.done (Sum.inl ())))
def rCheck_step (N : Nat) (self : (List Ineq) → Proof → Option Bool) (l : (List Ineq)) (p : Proof) : Option Bool :=
  (rEven N l).bind fun r6 =>
  (if (!r6) = true then
    some false
  else
    (apnd 56 ([] : (List Ineq)) l).bind fun x24 =>
    (loopM (rCheck_b1 N p) N (x24, 0)).bind fun ss =>
      match ss with
      | (Sum.inl all222) =>
        (if ((List.length p.Children : Int) : Int) = 0 then
          (loopM (rCheck_b2 N all222) N 0).bind fun ss =>
            match ss with
            | (Sum.inl _) =>
              some false
            | (Sum.inr z421) => some z421
        else
          (((if ((List.length p.Children : Int) : Int) ≠ 2 then
            some true
          else
            (if ((List.length all222 : Int) : Int) > 0 then
              (idx all222 0).bind fun x904 =>
              some (decide (((List.length p.Form : Int) : Int) ≠ (List.length x904.Coefs : Int)))
            else
              some false)) : Option Bool)).bind fun ss =>
            match ss with
            | x785 =>
              (if x785 = true then
                some false
              else
                (rNeg N p.Bound).bind fun r1165 =>
                (rOf N 1).bind fun r1170 =>
                (rSub N r1165 r1170).bind fun r1175 =>
                (rflip N (Ineq.mk p.Form p.Bound) r1175).bind fun r1180 =>
                (apnd 56 ([] : (List Ineq)) all222).bind fun x1274 =>
                (apnd 56 x1274 [(Ineq.mk p.Form p.Bound)]).bind fun x1350 =>
                (apnd 56 ([] : (List Ineq)) all222).bind fun x1373 =>
                (apnd 56 x1373 [r1180]).bind fun x1449 =>
                (idx p.Children 0).bind fun x1465 =>
                (self x1350 x1465).bind fun r1487 =>
                (if r1487 = true then
                  (idx p.Children 1).bind fun x1496 =>
                  (self x1449 x1496).bind fun r1518 =>
                  some r1518
                else
                  some false)))
      | (Sum.inr z1526) => some z1526)
def rCheck : Nat → (List Ineq) → Proof → Option Bool
  | 0 => fun _ _ => none
  | N + 1 => rCheck_step N (rCheck N)
def rHolds_b1 (N : Nat) (q : Ineq) (x : (List Big)) : (Bool × (List Int) × Int) → Option (Stp (Bool × (List Int) × Int) (Bool × (List Int)))
  | (negative298, digits299, i302) =>
    (if (i302 : Int) < (List.length x : Int) then
      (idx q.Coefs i302).bind fun x321 =>
      (idx x i302).bind fun x337 =>
      (rMul N x321 x337).bind fun r352 =>
      (rAdd N (Big.mk negative298 digits299) r352).bind fun r437 =>
      some (Stp.next (r437.Negative, r437.Digits, (iw (i302 + 1))))
    else
      some (Stp.done (negative298, digits299)))
def rHolds (N : Nat) (q : Ineq) (x : (List Big)) : Option Bool :=
  (if ((List.length q.Coefs : Int) : Int) ≠ (List.length x : Int) then
    some false
  else
    (loopM (rHolds_b1 N q x) N (false, [], 0)).bind fun ss =>
      match ss with
      | (negative305, digits306) =>
        (rCompare N (Big.mk negative305 digits306) q.Bound).bind fun r455 =>
        some (decide ((r455 : Int) ≤ 0)))
def rAll_b1 (N : Nat) (l : (List Ineq)) (x : (List Big)) : Int → Option (Stp Int (Sum Unit Bool))
  | i64 =>
    (if (i64 : Int) < (List.length l : Int) then
      (idx l i64).bind fun x74 =>
      (rHolds N x74 x).bind fun r91 =>
      (if (!r91) = true then
        some (Stp.done (Sum.inr false))
      else
        some (Stp.next (iw (i64 + 1))))
    else
      some (Stp.done (Sum.inl ())))
def rAll (N : Nat) (l : (List Ineq)) (x : (List Big)) : Option Bool :=
  (loopM (rAll_b1 N l x) N 0).bind fun ss =>
    match ss with
    | (Sum.inl _) =>
      some true
    | (Sum.inr z103) => some z103
def rbigs_b1 (N : Nat) (l : (List Big)) : Int → Option (Stp Int (Sum Unit Bool))
  | i46 =>
    (if (i46 : Int) < (List.length l : Int) then
      (idx l i46).bind fun x56 =>
      (if ((List.length x56.Digits : Int) : Int) > 4 then
        some (Stp.done (Sum.inr false))
      else
        some (Stp.next (iw (i46 + 1))))
    else
      some (Stp.done (Sum.inl ())))
def rbigs (N : Nat) (l : (List Big)) : Option Bool :=
  (loopM (rbigs_b1 N l) N 0).bind fun ss =>
    match ss with
    | (Sum.inl _) =>
      some (decide (((List.length l : Int) : Int) ≤ 6))
    | (Sum.inr z77) => some z77
def rSmall_b1 (N : Nat) (l : (List Ineq)) : Int → Option (Stp Int (Sum Unit Bool))
  | i210 =>
    (if (i210 : Int) < (List.length l : Int) then
      (((idx l i210).bind fun x269 =>
      (rbigs N x269.Coefs).bind fun r287 =>
      (if (!r287) = true then
        some true
      else
        (idx l i210).bind fun x295 =>
        some (decide (((List.length x295.Bound.Digits : Int) : Int) > 4))) : Option Bool)).bind fun ss =>
        match ss with
        | x266 =>
          (if x266 = true then
            some (Stp.done (Sum.inr false))
          else
            some (Stp.next (iw (i210 + 1))))
    else
      some (Stp.done (Sum.inl ())))
def rSmall (N : Nat) (l : (List Ineq)) : Option Bool :=
  (loopM (rSmall_b1 N l) N 0).bind fun ss =>
    match ss with
    | (Sum.inl _) =>
      some (decide (((List.length l : Int) : Int) ≤ 12))
    | (Sum.inr z323) => some z323
def rSmallStep_b1 (N : Nat) (s : Step) : Int → Option (Stp Int (Sum Unit Bool))
  | i56 =>
    (if (i56 : Int) < (List.length s.Uses : Int) then
      (idx s.Uses i56).bind fun x67 =>
      (if ((List.length x67.N.Digits : Int) : Int) > 4 then
        some (Stp.done (Sum.inr false))
      else
        some (Stp.next (iw (i56 + 1))))
    else
      some (Stp.done (Sum.inl ())))
def rSmallStep (N : Nat) (s : Step) : Option Bool :=
  (loopM (rSmallStep_b1 N s) N 0).bind fun ss =>
    match ss with
    | (Sum.inl _) =>
      (if ((List.length s.Uses : Int) : Int) ≤ 12 then
        some (decide (((List.length s.Divisor.Digits : Int) : Int) ≤ 4))
      else
        some false)
    | (Sum.inr z91) => some z91
def rweight_b1 (N : Nat) (p : Proof) : Int → Option (Stp Int (Sum Unit Int))
  | i121 =>
    (((if (i121 : Int) < (List.length p.Steps : Int) then
      some (decide (((iw (1 + (List.length p.Steps : Int))) : Int) ≤ 100))
    else
      some false) : Option Bool)).bind fun ss =>
      match ss with
      | x133 =>
        (if x133 = true then
          (idx p.Steps i121).bind fun x142 =>
          (rSmallStep N x142).bind fun r160 =>
          (if (!r160) = true then
            some (Stp.done (Sum.inr 101))
          else
            some (Stp.next (iw (i121 + 1))))
        else
          some (Stp.done (Sum.inl ())))
def rweight_b2 (N : Nat) (self : Proof → Option Int) (p : Proof) : (Int × Int) → Option (Stp (Int × Int) Int)
  | (n264, i265) =>
    (((if (i265 : Int) < (List.length p.Children : Int) then
      some (decide ((n264 : Int) ≤ 100))
    else
      some false) : Option Bool)).bind fun ss =>
      match ss with
      | x277 =>
        (if x277 = true then
          (idx p.Children i265).bind fun x286 =>
          (self x286).bind fun r308 =>
          some (Stp.next ((iw (n264 + r308)), (iw (i265 + 1))))
        else
          some (Stp.done n264))
def rweight_step (N : Nat) (self : Proof → Option Int) (p : Proof) : Option Int :=
  (((rbigs N p.Form).bind fun r21 =>
  (if (!r21) = true then
    some true
  else
    some (decide (((List.length p.Bound.Digits : Int) : Int) > 4))) : Option Bool)).bind fun ss =>
    match ss with
    | x18 =>
      (if x18 = true then
        some 101
      else
        (loopM (rweight_b1 N p) N 0).bind fun ss =>
          match ss with
          | (Sum.inl _) =>
            (loopM (rweight_b2 N self p) N ((iw (1 + (List.length p.Steps : Int))), 0)).bind fun ss =>
              match ss with
              | n266 =>
                some n266
          | (Sum.inr z321) => some z321)
def rweight : Nat → Proof → Option Int
  | 0 => fun _ => none
  | N + 1 => rweight_step N (rweight N)
def rSmallProof (N : Nat) (p : Proof) : Option Bool :=
  (rweight N p).bind fun r6 =>
  some (decide ((r6 : Int) ≤ 40))
end Go.D
