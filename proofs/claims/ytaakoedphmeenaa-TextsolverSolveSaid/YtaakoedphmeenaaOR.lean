/- More fuel changes nothing. Written by a program of mine (wip/tool). -/
import Derived.Test.YtaakoedphmeenaaM1
import Derived.Test.YtaakoedphmeenaaPR
import Derived.Test.YtaakoedphmeenaaOA
set_option maxRecDepth 100000
set_option linter.unusedVariables false
set_option linter.unusedSimpArgs false
namespace Go.D
open Go Go.X
end Go.D
