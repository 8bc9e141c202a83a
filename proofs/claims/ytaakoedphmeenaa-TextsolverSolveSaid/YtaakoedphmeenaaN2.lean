/-
 The law Classes. Plain theorems.
-/
import Derived.Test.YtaakoedphmeenaaK8
import Derived.Test.YtaakoedphmeenaaN1
set_option linter.unusedSimpArgs false
set_option linter.unusedVariables false
namespace Go.D
open Go Go.X
end Go.D
