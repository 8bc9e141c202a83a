/- More fuel changes nothing. Written by a program of mine (wip/tool). -/
import Derived.Test.YthmoefciofnmdaaDoorM1
import Derived.Test.YthmoefciofnmdaaDoorOF
import Derived.Test.YthmoefciofnmdaaDoorPL
import Derived.Test.YthmoefciofnmdaaDoorOA
import Derived.Test.YthmoefciofnmdaaDoorOR
import Derived.Test.YthmoefciofnmdaaDoorOB
import Derived.Test.YthmoefciofnmdaaDoorOC
set_option linter.unusedVariables false
set_option linter.unusedSimpArgs false
namespace Go.D
open Go Go.X
theorem awake_lo {N M : Nat} (h : N ≤ M)   : Lo (awake N ) (awake M ) := by
  unfold awake
  try dsimp only
  repeat' first
    | with_reducible exact Lo.refl _
    | with_reducible apply bDivFloor_lo h
    | with_reducible apply bFormat_lo h
    | with_reducible apply bGCD_lo h
    | with_reducible apply bOf_lo h
    | with_reducible apply bParse_lo h
    | with_reducible apply rSame_lo h
    | with_reducible refine Lo.bind ?_ (fun _ => ?_)
    | with_reducible refine Lo.ite ?_ ?_
    | with_reducible refine Lo.loop h (fun _ => ?_)
    | intro _
    | split
end Go.D
