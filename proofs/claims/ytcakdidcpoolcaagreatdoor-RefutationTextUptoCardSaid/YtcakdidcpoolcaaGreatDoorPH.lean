/- Plain counterparts, written by a program of mine (wip/tool). -/
import Derived.Test.YtcakdidcpoolcaaGreatDoorT25
import Derived.Test.YtcakdidcpoolcaaGreatDoorFD25
import Derived.Test.YtcakdidcpoolcaaGreatDoorPA
import Derived.Test.YtcakdidcpoolcaaGreatDoorPR
import Derived.Test.YtcakdidcpoolcaaGreatDoorPB
import Derived.Test.YtcakdidcpoolcaaGreatDoorPC
import Derived.Test.YtcakdidcpoolcaaGreatDoorPD
import Derived.Test.YtcakdidcpoolcaaGreatDoorPI
set_option linter.unusedVariables false
set_option linter.unusedSimpArgs false
namespace Go.D
open Go Go.X
end Go.D
