/- More fuel changes nothing. Written by a program of mine (wip/tool). -/
import Derived.Test.YtcakdidcpoolcaaGreatDoorM1
import Derived.Test.YtcakdidcpoolcaaGreatDoorOF25
import Derived.Test.YtcakdidcpoolcaaGreatDoorPL
import Derived.Test.YtcakdidcpoolcaaGreatDoorOA
import Derived.Test.YtcakdidcpoolcaaGreatDoorOR
import Derived.Test.YtcakdidcpoolcaaGreatDoorOB
import Derived.Test.YtcakdidcpoolcaaGreatDoorOC
import Derived.Test.YtcakdidcpoolcaaGreatDoorOD
import Derived.Test.YtcakdidcpoolcaaGreatDoorOI
import Derived.Test.YtcakdidcpoolcaaGreatDoorOH
import Derived.Test.YtcakdidcpoolcaaGreatDoorOS
import Derived.Test.YtcakdidcpoolcaaGreatDoorOV
import Derived.Test.YtcakdidcpoolcaaGreatDoorOU
set_option maxRecDepth 100000
set_option linter.unusedVariables false
set_option linter.unusedSimpArgs false
namespace Go.D
open Go Go.X
theorem lbig_lo {N M : Nat} (h : N ≤ M)  (n : Int) : Lo (lbig N n) (lbig M n) := by
 unfold lbig
 try dsimp only
 repeat' first
  | with_reducible (first | exact Lo.refl _ | apply rOf_lo h | refine Lo.bind ?_ (fun _ => ?_) | refine Lo.ite ?_ ?_ | refine Lo.loop h (fun _ => ?_))
  | intro _ | split
theorem awake_lo {N M : Nat} (h : N ≤ M)   : Lo (awake N ) (awake M ) := by
 unfold awake
 try dsimp only
 repeat' first
  | with_reducible (first | exact Lo.refl _ | apply lbig_lo h | apply vCheck_lo h | apply vFormat_lo h | refine Lo.bind ?_ (fun _ => ?_) | refine Lo.ite ?_ ?_ | refine Lo.loop h (fun _ => ?_))
  | intro _ | split
end Go.D
