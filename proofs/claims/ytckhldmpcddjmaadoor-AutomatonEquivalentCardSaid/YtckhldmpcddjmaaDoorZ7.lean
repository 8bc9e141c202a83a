/-
  What two operations of a drawn region make lies apart. Plain theorems over any program.
-/
import Derived.Test.YtckhldmpcddjmaaDoorZ
set_option linter.unusedSimpArgs false
set_option linter.unusedVariables false
namespace Go.X
open Go
end Go.X
