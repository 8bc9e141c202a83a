/- More fuel changes nothing. Written by a program of mine (wip/tool). -/
import Derived.Test.YthmoefciofnmdaaDoorM1
import Derived.Test.YthmoefciofnmdaaDoorOF
import Derived.Test.YthmoefciofnmdaaDoorPC
import Derived.Test.YthmoefciofnmdaaDoorOA
import Derived.Test.YthmoefciofnmdaaDoorOR
import Derived.Test.YthmoefciofnmdaaDoorOB
set_option linter.unusedVariables false
set_option linter.unusedSimpArgs false
namespace Go.D
open Go Go.X
end Go.D
