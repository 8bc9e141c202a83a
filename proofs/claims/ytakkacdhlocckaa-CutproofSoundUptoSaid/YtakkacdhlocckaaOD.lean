/- More fuel changes nothing. Written by a program of mine (wip/tool). -/
import Derived.Test.YtakkacdhlocckaaM1
import Derived.Test.YtakkacdhlocckaaPD
import Derived.Test.YtakkacdhlocckaaOA
import Derived.Test.YtakkacdhlocckaaOR
import Derived.Test.YtakkacdhlocckaaOB
import Derived.Test.YtakkacdhlocckaaOC
set_option linter.unusedVariables false
namespace Go.D
open Go Go.X
end Go.D
