/-
  What the program's Parse answers (chapter 02). Plain theorems.
-/
import Derived.Test.YthmoefciofnmdaaDoorN5
set_option linter.unusedSimpArgs false
set_option linter.unusedVariables false
namespace Go.D
open Go Go.X
end Go.D
