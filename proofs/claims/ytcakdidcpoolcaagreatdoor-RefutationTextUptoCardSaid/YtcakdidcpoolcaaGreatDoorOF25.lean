/- More fuel changes nothing: the library functions. -/
import Derived.Test.YtcakdidcpoolcaaGreatDoorM1
import Derived.Test.YtcakdidcpoolcaaGreatDoorFD25
set_option linter.unusedSimpArgs false
set_option linter.unusedVariables false
namespace Go.D
open Go Go.X
theorem fmtI_lo {N M : Nat} (h : N ≤ M) (n : Int) : Lo (fmtI N n) (fmtI M n) := Lo.refl _
end Go.D
