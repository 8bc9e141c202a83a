/- Plain counterparts of the library functions that chapter 25 calls. -/
import Derived.Lib.ItoaNum
set_option linter.unusedSimpArgs false
set_option linter.unusedVariables false
namespace Go.D
def fmtI (N : Nat) (n : Int) : Option (List UInt8) := if 0 ≤ n ∧ n < 100 then some (Go.Lib.decDigits n.toNat) else none
end Go.D
