/-
  Division: the rounds of the long division. Plain theorems.
-/
import Derived.Test.YthmoefciofnmdaaDoorM9
set_option linter.unusedSimpArgs false
set_option linter.unusedVariables false
namespace Go.D
open Go Go.X
end Go.D
