/- More fuel changes nothing. Written by a program of mine (wip/tool). -/
import Derived.Test.YtckhldmpcddjmaaDoorM1
import Derived.Test.YtckhldmpcddjmaaDoorOF20
import Derived.Test.YtckhldmpcddjmaaDoorPR
import Derived.Test.YtckhldmpcddjmaaDoorOA
set_option linter.unusedVariables false
set_option linter.unusedSimpArgs false
namespace Go.D
open Go Go.X
end Go.D
