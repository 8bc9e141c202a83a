/-
  The reference's division, bit by bit. Plain theorems.
-/
import Derived.Test.YthmoefciofnmdaaDoorM11
set_option linter.unusedSimpArgs false
set_option linter.unusedVariables false
namespace Go.D
open Go Go.X
end Go.D
