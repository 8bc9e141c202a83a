/- More fuel changes nothing. Written by a program of mine (wip/tool). -/
import Derived.Test.YtcakdidcpoolcaaGreatDoorM1
import Derived.Test.YtcakdidcpoolcaaGreatDoorOF25
import Derived.Test.YtcakdidcpoolcaaGreatDoorPI
import Derived.Test.YtcakdidcpoolcaaGreatDoorOA
import Derived.Test.YtcakdidcpoolcaaGreatDoorOR
import Derived.Test.YtcakdidcpoolcaaGreatDoorOB
import Derived.Test.YtcakdidcpoolcaaGreatDoorOC
import Derived.Test.YtcakdidcpoolcaaGreatDoorOD
set_option maxRecDepth 100000
set_option linter.unusedVariables false
set_option linter.unusedSimpArgs false
namespace Go.D
open Go Go.X
theorem indexOf_b1_lo {N M : Nat} (h : N ≤ M)  (pb : Int) (s : (List Int)) : ∀ ss0, Lo (indexOf_b1 N pb s ss0) (indexOf_b1 M pb s ss0) := by
 intro ss0
 unfold indexOf_b1
 try dsimp only
 repeat' first
  | with_reducible (first | exact Lo.refl _ | refine Lo.bind ?_ (fun _ => ?_) | refine Lo.ite ?_ ?_ | refine Lo.loop h (fun _ => ?_))
  | intro _ | split
theorem indexOf_lo {N M : Nat} (h : N ≤ M)  (s : (List Int)) (pb : Int) : Lo (indexOf N s pb) (indexOf M s pb) := by
 unfold indexOf
 try dsimp only
 repeat' first
  | with_reducible (first | exact Lo.refl _ | apply indexOf_b1_lo h | refine Lo.bind ?_ (fun _ => ?_) | refine Lo.ite ?_ ?_ | refine Lo.loop h (fun _ => ?_))
  | intro _ | split
theorem containsOf_lo {N M : Nat} (h : N ≤ M)  (s : (List Int)) (pb : Int) : Lo (containsOf N s pb) (containsOf M s pb) := by
 unfold containsOf
 try dsimp only
 repeat' first
  | with_reducible (first | exact Lo.refl _ | apply indexOf_lo h | refine Lo.bind ?_ (fun _ => ?_) | refine Lo.ite ?_ ?_ | refine Lo.loop h (fun _ => ?_))
  | intro _ | split
end Go.D
