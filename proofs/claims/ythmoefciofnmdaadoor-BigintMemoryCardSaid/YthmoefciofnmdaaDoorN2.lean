/-
  The laws of chapter 02: Remainder, Of, Normal. Plain theorems.
-/
import Derived.Test.YthmoefciofnmdaaDoorN1
set_option linter.unusedSimpArgs false
set_option linter.unusedVariables false
namespace Go.D
open Go Go.X
end Go.D
