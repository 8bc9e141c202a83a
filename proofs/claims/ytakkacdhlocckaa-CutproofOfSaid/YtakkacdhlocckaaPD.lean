/- Plain counterparts, written by a program of mine (wip/tool). -/
import Derived.Test.YtakkacdhlocckaaT18
import Derived.Test.YtakkacdhlocckaaPA
import Derived.Test.YtakkacdhlocckaaPR
import Derived.Test.YtakkacdhlocckaaPB
import Derived.Test.YtakkacdhlocckaaPC
set_option linter.unusedVariables false
namespace Go.D
open Go Go.X
def rzero (N : Nat) (n : Int) : Option Ineq :=
  (mk1 (α := Big) 32 (Big.mk false []) n).bind fun x7 =>
  some (Ineq.mk x7 (Big.mk false ([] : (List Int))))
def rRight_b1 (N : Nat) (c : Constraint) (n : Int) : Int → Option (Stp Int (Sum Unit Bool))
  | i132 =>
    (if (i132 : Int) < (List.length c.Linear.Coefs : Int) then
      (idx c.Linear.Coefs i132).bind fun x142 =>
      (((if (x142.Var : Int) < 0 then
        some true
      else
        (if (x142.Var : Int) ≥ n then
          some true
        else
          (if (i132 : Int) > 0 then
            (idx c.Linear.Coefs (iw (i132 - 1))).bind fun x180 =>
            some (decide ((x142.Var : Int) ≤ x180.Var))
          else
            some false))) : Option Bool)).bind fun ss =>
        match ss with
        | x174 =>
          (if x174 = true then
            some (Stp.done (Sum.inr false))
          else
            some (Stp.next (iw (i132 + 1))))
    else
      some (Stp.done (Sum.inl ())))
def rRight (N : Nat) (c : Constraint) (n : Int) : Option Bool :=
  (loopM (rRight_b1 N c n) N 0).bind fun ss =>
    match ss with
    | (Sum.inl _) =>
      (if (n : Int) ≥ 0 then
        some (decide ((n : Int) ≤ 512))
      else
        some false)
    | (Sum.inr z205) => some z205
def rflip_b1 (N : Nat) (q : Ineq) : ((List Big) × Int) → Option (Stp ((List Big) × Int) (List Big))
  | (coefs321, i325) =>
    (if (i325 : Int) < (List.length q.Coefs : Int) then
      (idx q.Coefs i325).bind fun x354 =>
      (rNeg N x354).bind fun r369 =>
      (apnd 32 coefs321 [r369]).bind fun x456 =>
      some (Stp.next (x456, (iw (i325 + 1))))
    else
      some (Stp.done coefs321))
def rflip (N : Nat) (q : Ineq) (bound : Big) : Option Ineq :=
  (rNormal N bound).bind fun r16 =>
  (loopM (rflip_b1 N q) N (([] : (List Big)), 0)).bind fun ss =>
    match ss with
    | coefs333 =>
      some (Ineq.mk coefs333 r16)
def rIOf_b1 (N : Nat) (c : Constraint) : ((List Big) × Int) → Option (Stp ((List Big) × Int) (List Big))
  | (coefs425, i430) =>
    (if (i430 : Int) < (List.length c.Linear.Coefs : Int) then
      (idx c.Linear.Coefs i430).bind fun x453 =>
      (idx c.Linear.Coefs i430).bind fun x467 =>
      (rOf N x467.N).bind fun r481 =>
      (idx coefs425 x453.Var).bind fun x602 =>
      (upd1 coefs425 x453.Var r481).bind fun x611 =>
      some (Stp.next (x611, (iw (i430 + 1))))
    else
      some (Stp.done coefs425))
def rIOf (N : Nat) (c : Constraint) (n : Int) : Option (List Ineq) :=
  (rRight N c n).bind fun r6 =>
  (if (!r6) = true then
    some ([] : (List Ineq))
  else
    (rzero N n).bind fun r20 =>
    (loopM (rIOf_b1 N c) N (r20.Coefs, 0)).bind fun ss =>
      match ss with
      | coefs435 =>
        (rOf N c.Linear.Const).bind fun r630 =>
        (rNeg N r630).bind fun r649 =>
        (if (!c.Equal) = true then
          some [(Ineq.mk coefs435 r649)]
        else
          (rflip N (Ineq.mk coefs435 r649) r630).bind fun r679 =>
          some [(Ineq.mk coefs435 r649), r679]))
def rSystem_b1 (N : Nat) (l : (List Constraint)) (n : Int) : ((List Ineq) × Int) → Option (Stp ((List Ineq) × Int) (Sum (List Ineq) (List Ineq)))
  | (out188, i192) =>
    (if (i192 : Int) < (List.length l : Int) then
      (idx l i192).bind fun x212 =>
      (rRight N x212 n).bind fun r227 =>
      (if (!r227) = true then
        some (Stp.done (Sum.inr ([] : (List Ineq))))
      else
        (idx l i192).bind fun x240 =>
        (rIOf N x240 n).bind fun r256 =>
        (apnd 56 out188 r256).bind fun x271 =>
        some (Stp.next (x271, (iw (i192 + 1)))))
    else
      some (Stp.done (Sum.inl out188)))
def rSystem (N : Nat) (l : (List Constraint)) (n : Int) : Option (List Ineq) :=
  (loopM (rSystem_b1 N l n) N (([] : (List Ineq)), 0)).bind fun ss =>
    match ss with
    | (Sum.inl out198) =>
      some out198
    | (Sum.inr z295) => some z295
def rSame1_b1 (N : Nat) (a : Ineq) (b : Ineq) : Int → Option (Stp Int (Sum Unit Bool))
  | i293 =>
    (if (i293 : Int) < (List.length a.Coefs : Int) then
      (idx a.Coefs i293).bind fun x303 =>
      (idx b.Coefs i293).bind fun x318 =>
      (rSame N x303 x318).bind fun r406 =>
      (if (!r406) = true then
        some (Stp.done (Sum.inr false))
      else
        some (Stp.next (iw (i293 + 1))))
    else
      some (Stp.done (Sum.inl ())))
def rSame1 (N : Nat) (a : Ineq) (b : Ineq) : Option Bool :=
  (((if ((List.length a.Coefs : Int) : Int) ≠ (List.length b.Coefs : Int) then
    some true
  else
    (rSame N a.Bound b.Bound).bind fun r34 =>
    some (!r34)) : Option Bool)).bind fun ss =>
    match ss with
    | x25 =>
      (if x25 = true then
        some false
      else
        (loopM (rSame1_b1 N a b) N 0).bind fun ss =>
          match ss with
          | (Sum.inl _) =>
            some true
          | (Sum.inr z422) => some z422)
def rSames_b1 (N : Nat) (a : (List Ineq)) (b : (List Ineq)) : Int → Option (Stp Int (Sum Unit Bool))
  | i227 =>
    (if (i227 : Int) < (List.length a : Int) then
      (idx a i227).bind fun x237 =>
      (idx b i227).bind fun x254 =>
      (rSame1 N x237 x254).bind fun r332 =>
      (if (!r332) = true then
        some (Stp.done (Sum.inr false))
      else
        some (Stp.next (iw (i227 + 1))))
    else
      some (Stp.done (Sum.inl ())))
def rSames (N : Nat) (a : (List Ineq)) (b : (List Ineq)) : Option Bool :=
  (if ((List.length a : Int) : Int) ≠ (List.length b : Int) then
    some false
  else
    (loopM (rSames_b1 N a b) N 0).bind fun ss =>
      match ss with
      | (Sum.inl _) =>
        some true
      | (Sum.inr z347) => some z347)
end Go.D
