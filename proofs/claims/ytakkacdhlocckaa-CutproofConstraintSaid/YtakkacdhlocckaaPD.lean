/- Plain counterparts, written by a program of mine (wip/tool). -/
import Derived.Test.YtakkacdhlocckaaT18
import Derived.Test.YtakkacdhlocckaaPA
import Derived.Test.YtakkacdhlocckaaPR
import Derived.Test.YtakkacdhlocckaaPB
import Derived.Test.YtakkacdhlocckaaPC
set_option linter.unusedVariables false
namespace Go.D
open Go Go.X
def rRight_b1 (N : Nat) (c : Constraint) (n : Int) : Int → Option (Stp Int (Sum Unit Bool))
  | i132 =>
    (if (i132 : Int) < (List.length c.Linear.Coefs : Int) then
      (idx c.Linear.Coefs i132).bind fun x142 =>
      (((if (x142.Var : Int) < 0 then
        some true
      else
        (if (x142.Var : Int) ≥ n then
          some true
        else
          (if (i132 : Int) > 0 then
            (idx c.Linear.Coefs (iw (i132 - 1))).bind fun x180 =>
            some (decide ((x142.Var : Int) ≤ x180.Var))
          else
            some false))) : Option Bool)).bind fun ss =>
        match ss with
        | x174 =>
          (if x174 = true then
            some (Stp.done (Sum.inr false))
          else
            some (Stp.next (iw (i132 + 1))))
    else
      some (Stp.done (Sum.inl ())))
def rRight (N : Nat) (c : Constraint) (n : Int) : Option Bool :=
  (loopM (rRight_b1 N c n) N 0).bind fun ss =>
    match ss with
    | (Sum.inl _) =>
      (if (n : Int) ≥ 0 then
        some (decide ((n : Int) ≤ 512))
      else
        some false)
    | (Sum.inr z205) => some z205
end Go.D
