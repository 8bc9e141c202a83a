/- Plain counterparts, written by a program of mine (wip/tool). -/
import Derived.Test.YtcakdidcpoolcaaGreatDoorT25
import Derived.Test.YtcakdidcpoolcaaGreatDoorFD25
import Derived.Test.YtcakdidcpoolcaaGreatDoorPA
import Derived.Test.YtcakdidcpoolcaaGreatDoorPR
import Derived.Test.YtcakdidcpoolcaaGreatDoorPB
import Derived.Test.YtcakdidcpoolcaaGreatDoorPC
import Derived.Test.YtcakdidcpoolcaaGreatDoorPD
set_option linter.unusedVariables false
set_option linter.unusedSimpArgs false
namespace Go.D
open Go Go.X
def indexOf_b1 (N : Nat) (pb : Int) (s : (List Int)) : Int → Option (Stp Int (Sum Unit Int))
 | v0 =>
  (if (v0 : Int) < (List.length s : Int) then
   (idx s v0).bind fun v1 =>
   (if (pb : Int) = v1 then
    some (Stp.done (Sum.inr v0))
   else
    some (Stp.next (iw (v0 + 1))))
  else
   some (Stp.done (Sum.inl ())))
def indexOf (N : Nat) (s : (List Int)) (pb : Int) : Option Int :=
 (loopM (indexOf_b1 N pb s) N 0).bind fun ss =>
  match ss with
  | (Sum.inl _) =>
   some (-1)
  | (Sum.inr v0) => some v0
def containsOf (N : Nat) (s : (List Int)) (pb : Int) : Option Bool :=
 (indexOf N s pb).bind fun r1 =>
 some (decide ((r1 : Int) ≥ 0))
end Go.D
