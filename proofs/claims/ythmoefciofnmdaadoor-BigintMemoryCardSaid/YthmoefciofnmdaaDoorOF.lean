/- More fuel changes nothing: the library functions. -/
import Derived.Test.YthmoefciofnmdaaDoorM1
import Derived.Test.YthmoefciofnmdaaDoorFD
set_option linter.unusedSimpArgs false
set_option linter.unusedVariables false
namespace Go.D
open Go Go.X
theorem formatUint_lo {N M : Nat} (h : N ≤ M) (i b : Int) : Lo (formatUint N i b) (formatUint M i b) := Lo.refl _
theorem repeatStr_lo {N M : Nat} (h : N ≤ M) (s : List UInt8) (c : Int) : Lo (repeatStr N s c) (repeatStr M s c) := Lo.refl _
theorem joinStr_lo {N M : Nat} (h : N ≤ M) (xs : List (List UInt8)) (s : List UInt8) : Lo (joinStr N xs s) (joinStr M xs s) := Lo.refl _
theorem trimPre_lo {N M : Nat} (h : N ≤ M) (s p : List UInt8) : Lo (trimPre N s p) (trimPre M s p) := Lo.refl _
end Go.D
