/- What the bulk of the arguments tells. -/
import Derived.Test.YtakkacdhlocckaaK18b
import Derived.Test.YtakkacdhlocckaaM16
import Derived.Test.YtakkacdhlocckaaZ
import Derived.Test.YtakkacdhlocckaaRows
set_option maxRecDepth 100000
namespace Go.Proofs.Ytakkacdhlocckaa.Q18
open Go Go.RowKit Go.X Go.D
section
variable {H : Type} {enc : TypeId × Value → H} {W : World}
theorem oIneqs : ∀ N, OpnT enc Try.prog W N (rSl rIneq) 22 G22 (SlT fun _ _ => True) := fun N => OpnT.less (OpnT.slice Try.underlying22 (by kernel_rfl) rfl (Opn.t (o34 N)))
end
end Go.Proofs.Ytakkacdhlocckaa.Q18
