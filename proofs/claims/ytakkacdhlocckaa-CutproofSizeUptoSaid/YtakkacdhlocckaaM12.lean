/-
  The reference's division, bit by bit. Plain theorems.
-/
import Derived.Test.YtakkacdhlocckaaM11
namespace Go.D
open Go Go.X
end Go.D
