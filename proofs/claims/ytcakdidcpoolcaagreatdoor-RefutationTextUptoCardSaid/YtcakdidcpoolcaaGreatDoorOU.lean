/- More fuel changes nothing. Written by a program of mine (wip/tool). -/
import Derived.Test.YtcakdidcpoolcaaGreatDoorM1
import Derived.Test.YtcakdidcpoolcaaGreatDoorOF25
import Derived.Test.YtcakdidcpoolcaaGreatDoorPU
import Derived.Test.YtcakdidcpoolcaaGreatDoorOA
import Derived.Test.YtcakdidcpoolcaaGreatDoorOR
import Derived.Test.YtcakdidcpoolcaaGreatDoorOB
import Derived.Test.YtcakdidcpoolcaaGreatDoorOC
import Derived.Test.YtcakdidcpoolcaaGreatDoorOD
import Derived.Test.YtcakdidcpoolcaaGreatDoorOI
import Derived.Test.YtcakdidcpoolcaaGreatDoorOH
import Derived.Test.YtcakdidcpoolcaaGreatDoorOS
import Derived.Test.YtcakdidcpoolcaaGreatDoorOV
set_option maxRecDepth 100000
set_option linter.unusedVariables false
set_option linter.unusedSimpArgs false
namespace Go.D
open Go Go.X
end Go.D
