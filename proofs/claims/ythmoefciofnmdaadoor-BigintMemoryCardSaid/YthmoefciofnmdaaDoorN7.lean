/-
  What the reference's Text and Parse answer, and the law BigintText (chapter 02). Plain theorems.
-/
import Derived.Test.YthmoefciofnmdaaDoorN6
set_option linter.unusedSimpArgs false
set_option linter.unusedVariables false
namespace Go.D
open Go Go.X
end Go.D
