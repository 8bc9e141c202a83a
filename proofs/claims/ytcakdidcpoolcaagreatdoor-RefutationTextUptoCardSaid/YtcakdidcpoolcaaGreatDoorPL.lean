/- Plain counterparts, written by a program of mine (wip/tool). -/
import Derived.Test.YtcakdidcpoolcaaGreatDoorT25
import Derived.Test.YtcakdidcpoolcaaGreatDoorFD25
import Derived.Test.YtcakdidcpoolcaaGreatDoorPA
import Derived.Test.YtcakdidcpoolcaaGreatDoorPR
import Derived.Test.YtcakdidcpoolcaaGreatDoorPB
import Derived.Test.YtcakdidcpoolcaaGreatDoorPC
import Derived.Test.YtcakdidcpoolcaaGreatDoorPD
import Derived.Test.YtcakdidcpoolcaaGreatDoorPI
import Derived.Test.YtcakdidcpoolcaaGreatDoorPH
import Derived.Test.YtcakdidcpoolcaaGreatDoorPS
import Derived.Test.YtcakdidcpoolcaaGreatDoorPV
import Derived.Test.YtcakdidcpoolcaaGreatDoorPU
set_option linter.unusedVariables false
set_option linter.unusedSimpArgs false
namespace Go.D
open Go Go.X
def lbig (N : Nat) (n : Int) : Option Big :=
 (rOf N n).bind fun r6 =>
 some r6
def awake (N : Nat)  : Option Bool :=
 (lbig N 1).bind fun v0 =>
 (lbig N 2).bind fun v1 =>
 (lbig N 1).bind fun v2 =>
 (lbig N 2).bind fun v3 =>
 (lbig N 1).bind fun v4 =>
 (lbig N 1).bind fun v5 =>
 (lbig N 1).bind fun v6 =>
 (vCheck N [(RVar.mk 1 (-9) 9 0 false)] (RClause.mk [] [0] [] [(Constraint.mk (Linear.mk (-5) [(Coef.mk 0 2)]) true)] [] [] []) (Refut.mk 2 0 0 (Proof.mk [(Step.mk [(Use.mk 2 v0)] v1), (Step.mk [(Use.mk 3 v2)] v3), (Step.mk [(Use.mk 4 v4), (Use.mk 5 v5)] v6)] [] (Big.mk false []) []) [])).bind fun v7 =>
 (if v7 = true then
  (vFormat N (Refut.mk 2 0 0 (Proof.mk [(Step.mk [(Use.mk 2 v0)] v1), (Step.mk [(Use.mk 3 v2)] v3), (Step.mk [(Use.mk 4 v4), (Use.mk 5 v5)] v6)] [] (Big.mk false []) []) [])).bind fun v8 =>
  (if v8 = ([105, 110, 116, 101, 103, 101, 114, 115, 32, 51] : List UInt8) then
   (vCheck N [(RVar.mk 1 (-9) 9 0 false)] (RClause.mk [0] [] [] [] [] [] []) (Refut.mk 0 0 0 (Proof.mk [] [] (Big.mk false []) []) [])).bind fun v9 =>
   (if v9 = true then
    (vCheck N [(RVar.mk 1 (-9) 9 0 false)] (RClause.mk [] [0] [] [] [] [] []) (Refut.mk 0 0 0 (Proof.mk [] [] (Big.mk false []) []) [])).bind fun v10 =>
    some (!v10)
   else
    some false)
  else
   some false)
 else
  some false)
def lawText (N : Nat) (pa : Refut) : Option Bool :=
 (((awake N ).bind fun v0 =>
 (if (!v0) = true then
  some true
 else
  (wSmall N pa).bind fun v1 =>
  some (!v1)) : Option Bool)).bind fun ss =>
  match ss with
  | v2 =>
   (if v2 = true then
    (awake N ).bind fun v3 =>
    some v3
   else
    (vSize N pa).bind fun v4 =>
    (wSize N pa).bind fun v5 =>
    (if (v4 : Int) = v5 then
     (vFormat N pa).bind fun v6 =>
     (wFormat N pa).bind fun v7 =>
     some (decide (v6 = v7))
    else
     some false))
end Go.D
