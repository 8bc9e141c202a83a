/- Plain counterparts, written by a program of mine (wip/tool). -/
import Derived.Test.YthmoefciofnmdaaDoorT18
import Derived.Test.YthmoefciofnmdaaDoorFD
import Derived.Test.YthmoefciofnmdaaDoorPA
set_option linter.unusedVariables false
set_option linter.unusedSimpArgs false
namespace Go.D
open Go Go.X
def rSame_b1 (N : Nat) (a : Big) (b : Big) : Int → Option (Stp Int (Sum Unit Bool))
  | i249 =>
    (if (i249 : Int) < (List.length a.Digits : Int) then
      (idx a.Digits i249).bind fun x259 =>
      (idx b.Digits i249).bind fun x272 =>
      (if (x259 : Int) ≠ x272 then
        some (Stp.done (Sum.inr false))
      else
        some (Stp.next (iw (i249 + 1))))
    else
      some (Stp.done (Sum.inl ())))
def rSame (N : Nat) (a : Big) (b : Big) : Option Bool :=
  (((if (!(a.Negative == b.Negative)) = true then
    some true
  else
    some (decide (((List.length a.Digits : Int) : Int) ≠ (List.length b.Digits : Int)))) : Option Bool)).bind fun ss =>
    match ss with
    | x16 =>
      (if x16 = true then
        some false
      else
        (loopM (rSame_b1 N a b) N 0).bind fun ss =>
          match ss with
          | (Sum.inl _) =>
            some true
          | (Sum.inr z365) => some z365)
def rCopy (N : Nat) (x : Big) : Option Big :=
  (apnd 4 ([] : (List Int)) x.Digits).bind fun x18 =>
  some (Big.mk x.Negative x18)
def rSmallB (N : Nat) (x : Big) : Option Bool :=
  some (decide (((List.length x.Digits : Int) : Int) ≤ 8))
end Go.D
