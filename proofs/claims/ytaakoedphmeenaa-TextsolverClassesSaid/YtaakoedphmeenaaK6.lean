/-
  The words of a list of tests. Plain theorems.
-/
import Derived.Test.YtaakoedphmeenaaK5
set_option linter.unusedSimpArgs false
set_option linter.unusedVariables false
namespace Go.D
open Go Go.X
end Go.D
