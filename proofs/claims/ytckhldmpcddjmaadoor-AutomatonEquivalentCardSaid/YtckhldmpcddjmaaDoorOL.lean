/- More fuel changes nothing. Written by a program of mine (wip/tool). -/
import Derived.Test.YtckhldmpcddjmaaDoorM1
import Derived.Test.YtckhldmpcddjmaaDoorOF20
import Derived.Test.YtckhldmpcddjmaaDoorPL
import Derived.Test.YtckhldmpcddjmaaDoorOA
import Derived.Test.YtckhldmpcddjmaaDoorOR
set_option linter.unusedVariables false
set_option linter.unusedSimpArgs false
namespace Go.D
open Go Go.X
theorem lexample_lo {N M : Nat} (h : N ≤ M)   : Lo (lexample N ) (lexample M ) := by
  unfold lexample
  try dsimp only
  repeat' first
    | with_reducible exact Lo.refl _
    | with_reducible refine Lo.bind ?_ (fun _ => ?_)
    | with_reducible refine Lo.ite ?_ ?_
    | with_reducible refine Lo.loop h (fun _ => ?_)
    | intro _
    | split
theorem awake_lo {N M : Nat} (h : N ≤ M)   : Lo (awake N ) (awake M ) := by
  unfold awake
  try dsimp only
  repeat' first
    | with_reducible exact Lo.refl _
    | with_reducible apply aAccepts_lo h
    | with_reducible apply aMinimize_lo h
    | with_reducible apply aShortest_lo h
    | with_reducible apply aWords_lo h
    | with_reducible apply lexample_lo h
    | with_reducible refine Lo.bind ?_ (fun _ => ?_)
    | with_reducible refine Lo.ite ?_ ?_
    | with_reducible refine Lo.loop h (fun _ => ?_)
    | intro _
    | split
end Go.D
