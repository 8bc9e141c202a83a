/- Plain counterparts, written by a program of mine (wip/tool). -/
import Derived.Test.YtcakdidcpoolcaaGreatDoorT25
import Derived.Test.YtcakdidcpoolcaaGreatDoorFD25
import Derived.Test.YtcakdidcpoolcaaGreatDoorPA
import Derived.Test.YtcakdidcpoolcaaGreatDoorPR
import Derived.Test.YtcakdidcpoolcaaGreatDoorPB
import Derived.Test.YtcakdidcpoolcaaGreatDoorPC
import Derived.Test.YtcakdidcpoolcaaGreatDoorPD
import Derived.Test.YtcakdidcpoolcaaGreatDoorPI
import Derived.Test.YtcakdidcpoolcaaGreatDoorPH
import Derived.Test.YtcakdidcpoolcaaGreatDoorPS
import Derived.Test.YtcakdidcpoolcaaGreatDoorPV
import Derived.Test.YtcakdidcpoolcaaGreatDoorPU
set_option linter.unusedVariables false
set_option linter.unusedSimpArgs false
namespace Go.D
open Go Go.X
def lbig (N : Nat) (n : Int) : Option Big :=
 (rOf N n).bind fun r6 =>
 some r6
def awake (N : Nat)  : Option Bool :=
 (lbig N 1).bind fun v0 =>
 (lbig N 2).bind fun v1 =>
 (lbig N 1).bind fun v2 =>
 (lbig N 2).bind fun v3 =>
 (lbig N 1).bind fun v4 =>
 (lbig N 1).bind fun v5 =>
 (lbig N 1).bind fun v6 =>
 (vCheck N [(RVar.mk 1 (-9) 9 0 false)] (RClause.mk [] [0] [] [(Constraint.mk (Linear.mk (-5) [(Coef.mk 0 2)]) true)] [] [] []) (Refut.mk 2 0 0 (Proof.mk [(Step.mk [(Use.mk 2 v0)] v1), (Step.mk [(Use.mk 3 v2)] v3), (Step.mk [(Use.mk 4 v4), (Use.mk 5 v5)] v6)] [] (Big.mk false []) []) [])).bind fun v7 =>
 (if v7 = true then
  (vFormat N (Refut.mk 2 0 0 (Proof.mk [(Step.mk [(Use.mk 2 v0)] v1), (Step.mk [(Use.mk 3 v2)] v3), (Step.mk [(Use.mk 4 v4), (Use.mk 5 v5)] v6)] [] (Big.mk false []) []) [])).bind fun v8 =>
  (if v8 = ([105, 110, 116, 101, 103, 101, 114, 115, 32, 51] : List UInt8) then
   (vCheck N [(RVar.mk 1 (-9) 9 0 false)] (RClause.mk [0] [] [] [] [] [] []) (Refut.mk 0 0 0 (Proof.mk [] [] (Big.mk false []) []) [])).bind fun v9 =>
   (if v9 = true then
    (vCheck N [(RVar.mk 1 (-9) 9 0 false)] (RClause.mk [] [0] [] [] [] [] []) (Refut.mk 0 0 0 (Proof.mk [] [] (Big.mk false []) []) [])).bind fun v10 =>
    some (!v10)
   else
    some false)
  else
   some false)
 else
  some false)
def lright (N : Nat) (x : RCase) : Option Bool :=
 (wDomains N x.L).bind fun r6 =>
 (if r6 = true then
  (sFew N x.C).bind fun v0 =>
  (if v0 = true then
   (sValid N x.C x.L).bind fun v1 =>
   (if v1 = true then
    (wRight N x.L x.Ranges).bind fun v2 =>
    some v2
   else
    some false)
  else
   some false)
 else
  some false)
def lawInts (N : Nat) (x : RCase) : Option Bool :=
 (((awake N ).bind fun v0 =>
 (if (!v0) = true then
  some true
 else
  (lright N x).bind fun v1 =>
  some (!v1)) : Option Bool)).bind fun ss =>
  match ss with
  | v2 =>
   (if v2 = true then
    (awake N ).bind fun v3 =>
    some v3
   else
    (vInts N x.L x.C x.Ranges).bind fun v4 =>
    (if (v4.1 : Int) = (iw ((List.length x.L : Int) + (List.length x.C.Auxiliary : Int))) then
     (wInts N x.L x.C x.Ranges).bind fun v5 =>
     (wSame N v4.2 v5).bind fun v6 =>
     some v6
    else
     some false))
end Go.D
