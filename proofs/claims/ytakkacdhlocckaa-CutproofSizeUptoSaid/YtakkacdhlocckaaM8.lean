/-
  Division: the parts. Plain theorems.
-/
import Derived.Test.YtakkacdhlocckaaM3
import Derived.Test.YtakkacdhlocckaaPB
namespace Go.D
open Go Go.X
end Go.D
namespace Go.D
open Go Go.X
end Go.D
