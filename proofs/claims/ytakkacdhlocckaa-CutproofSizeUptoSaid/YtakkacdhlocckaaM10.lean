/-
  Division: the rounds of the long division. Plain theorems.
-/
import Derived.Test.YtakkacdhlocckaaM9
namespace Go.D
open Go Go.X
end Go.D
