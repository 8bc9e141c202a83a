/-
  Division: quotient and remainder. Plain theorems.
-/
import Derived.Test.YthmoefciofnmdaaDoorM10
set_option linter.unusedSimpArgs false
set_option linter.unusedVariables false
namespace Go.D
open Go Go.X
structure DivP (a b : Int) (r : Big × Big × Bool) : Prop where
  ok : r.2.2 = decide (b ≠ 0)
  quo : Is r.1 (a.fdiv b)
  rem : Is r.2.1 (if b = 0 then 0 else a.fmod b)
end Go.D
