/-
  Division: long division digit by digit. Plain theorems.
-/
import Derived.Test.YtakkacdhlocckaaM8
namespace Go.D
open Go Go.X
end Go.D
