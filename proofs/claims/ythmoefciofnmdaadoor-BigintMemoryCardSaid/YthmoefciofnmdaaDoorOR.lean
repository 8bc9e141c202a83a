/- More fuel changes nothing. Written by a program of mine (wip/tool). -/
import Derived.Test.YthmoefciofnmdaaDoorM1
import Derived.Test.YthmoefciofnmdaaDoorOF
import Derived.Test.YthmoefciofnmdaaDoorPR
import Derived.Test.YthmoefciofnmdaaDoorOA
set_option linter.unusedVariables false
set_option linter.unusedSimpArgs false
namespace Go.D
open Go Go.X
theorem rSame_b1_lo {N M : Nat} (h : N ≤ M)  (a : Big) (b : Big) : ∀ ss0, Lo (rSame_b1 N a b ss0) (rSame_b1 M a b ss0) := by
  intro ss0
  unfold rSame_b1
  try dsimp only
  repeat' first
    | with_reducible exact Lo.refl _
    | with_reducible refine Lo.bind ?_ (fun _ => ?_)
    | with_reducible refine Lo.ite ?_ ?_
    | with_reducible refine Lo.loop h (fun _ => ?_)
    | intro _
    | split
theorem rSame_lo {N M : Nat} (h : N ≤ M)  (a : Big) (b : Big) : Lo (rSame N a b) (rSame M a b) := by
  unfold rSame
  try dsimp only
  repeat' first
    | with_reducible exact Lo.refl _
    | with_reducible apply rSame_b1_lo h
    | with_reducible refine Lo.bind ?_ (fun _ => ?_)
    | with_reducible refine Lo.ite ?_ ?_
    | with_reducible refine Lo.loop h (fun _ => ?_)
    | intro _
    | split
end Go.D
