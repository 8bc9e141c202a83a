/- Plain counterparts of the library functions that chapter 25 calls. -/
import Derived.Lib.ItoaNum
set_option linter.unusedSimpArgs false
set_option linter.unusedVariables false
namespace Go.D
def fmtI (N : Nat) (n : Int) : Option (List UInt8) := if -9223372036854775808 ≤ n ∧ n ≤ 9223372036854775807 then some (Go.Lib.itoa n) else none
def wr (a b : List UInt8) : Option (List UInt8) := if a.length + b.length ≤ 140737488355328 then some (a ++ b) else none
end Go.D
