/- Plain counterparts, written by a program of mine (wip/tool). -/
import Derived.Test.YtakkacdhlocckaaT18
import Derived.Test.YtakkacdhlocckaaPA
import Derived.Test.YtakkacdhlocckaaPR
import Derived.Test.YtakkacdhlocckaaPB
import Derived.Test.YtakkacdhlocckaaPC
set_option linter.unusedVariables false
namespace Go.D
open Go Go.X
def rHolds_b1 (N : Nat) (q : Ineq) (x : (List Big)) : (Bool × (List Int) × Int) → Option (Stp (Bool × (List Int) × Int) (Bool × (List Int)))
  | (negative298, digits299, i302) =>
    (if (i302 : Int) < (List.length x : Int) then
      (idx q.Coefs i302).bind fun x321 =>
      (idx x i302).bind fun x337 =>
      (rMul N x321 x337).bind fun r352 =>
      (rAdd N (Big.mk negative298 digits299) r352).bind fun r437 =>
      some (Stp.next (r437.Negative, r437.Digits, (iw (i302 + 1))))
    else
      some (Stp.done (negative298, digits299)))
def rHolds (N : Nat) (q : Ineq) (x : (List Big)) : Option Bool :=
  (if ((List.length q.Coefs : Int) : Int) ≠ (List.length x : Int) then
    some false
  else
    (loopM (rHolds_b1 N q x) N (false, [], 0)).bind fun ss =>
      match ss with
      | (negative305, digits306) =>
        (rCompare N (Big.mk negative305 digits306) q.Bound).bind fun r455 =>
        some (decide ((r455 : Int) ≤ 0)))
def rAll_b1 (N : Nat) (l : (List Ineq)) (x : (List Big)) : Int → Option (Stp Int (Sum Unit Bool))
  | i64 =>
    (if (i64 : Int) < (List.length l : Int) then
      (idx l i64).bind fun x74 =>
      (rHolds N x74 x).bind fun r91 =>
      (if (!r91) = true then
        some (Stp.done (Sum.inr false))
      else
        some (Stp.next (iw (i64 + 1))))
    else
      some (Stp.done (Sum.inl ())))
def rAll (N : Nat) (l : (List Ineq)) (x : (List Big)) : Option Bool :=
  (loopM (rAll_b1 N l x) N 0).bind fun ss =>
    match ss with
    | (Sum.inl _) =>
      some true
    | (Sum.inr z103) => some z103
def rbigs_b1 (N : Nat) (l : (List Big)) : Int → Option (Stp Int (Sum Unit Bool))
  | i46 =>
    (if (i46 : Int) < (List.length l : Int) then
      (idx l i46).bind fun x56 =>
      (if ((List.length x56.Digits : Int) : Int) > 4 then
        some (Stp.done (Sum.inr false))
      else
        some (Stp.next (iw (i46 + 1))))
    else
      some (Stp.done (Sum.inl ())))
def rbigs (N : Nat) (l : (List Big)) : Option Bool :=
  (loopM (rbigs_b1 N l) N 0).bind fun ss =>
    match ss with
    | (Sum.inl _) =>
      some (decide (((List.length l : Int) : Int) ≤ 6))
    | (Sum.inr z77) => some z77
def rSmall_b1 (N : Nat) (l : (List Ineq)) : Int → Option (Stp Int (Sum Unit Bool))
  | i210 =>
    (if (i210 : Int) < (List.length l : Int) then
      (((idx l i210).bind fun x269 =>
      (rbigs N x269.Coefs).bind fun r287 =>
      (if (!r287) = true then
        some true
      else
        (idx l i210).bind fun x295 =>
        some (decide (((List.length x295.Bound.Digits : Int) : Int) > 4))) : Option Bool)).bind fun ss =>
        match ss with
        | x266 =>
          (if x266 = true then
            some (Stp.done (Sum.inr false))
          else
            some (Stp.next (iw (i210 + 1))))
    else
      some (Stp.done (Sum.inl ())))
def rSmall (N : Nat) (l : (List Ineq)) : Option Bool :=
  (loopM (rSmall_b1 N l) N 0).bind fun ss =>
    match ss with
    | (Sum.inl _) =>
      some (decide (((List.length l : Int) : Int) ≤ 12))
    | (Sum.inr z323) => some z323
def rSmallStep_b1 (N : Nat) (s : Step) : Int → Option (Stp Int (Sum Unit Bool))
  | i56 =>
    (if (i56 : Int) < (List.length s.Uses : Int) then
      (idx s.Uses i56).bind fun x67 =>
      (if ((List.length x67.N.Digits : Int) : Int) > 4 then
        some (Stp.done (Sum.inr false))
      else
        some (Stp.next (iw (i56 + 1))))
    else
      some (Stp.done (Sum.inl ())))
def rSmallStep (N : Nat) (s : Step) : Option Bool :=
  (loopM (rSmallStep_b1 N s) N 0).bind fun ss =>
    match ss with
    | (Sum.inl _) =>
      (if ((List.length s.Uses : Int) : Int) ≤ 12 then
        some (decide (((List.length s.Divisor.Digits : Int) : Int) ≤ 4))
      else
        some false)
    | (Sum.inr z91) => some z91
end Go.D
