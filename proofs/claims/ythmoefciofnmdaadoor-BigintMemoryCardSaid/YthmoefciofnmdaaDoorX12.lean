/- Tables that a row lists: what they hold. -/
import Derived.Test.YthmoefciofnmdaaDoorX
import Derived.Lib.LaidU8
set_option linter.unusedSimpArgs false
set_option linter.unusedVariables false
namespace Go.X
def litCells : DataW Unit → Array Value
  | .agg ds => (ds.map fun | .lit (.int k n) => Value.int k n | _ => .bool false).toArray
  | _ => #[]
def laying (w : World) : List (Nat × DataW Unit) → World
  | [] => w
  | (g, d) :: r => laying { w with heap := w.heap.modify g fun | .cells _ t fr => .cells (litCells d) t fr | o => o } r
end Go.X
