/- From what the arguments read as to what the laws need. -/
import Derived.Test.YtakkacdhlocckaaK18a
import Derived.Test.YtakkacdhlocckaaM14
namespace Go.Proofs.Ytakkacdhlocckaa.Q18
open Go Go.RowKit Go.X Go.D
theorem ineqs_of {l : List Ineq} (h : G22 l) : ∀ q ∈ l, InI q := fun q hq => inI_of (h.2 q hq)
theorem inS_of {s : Step} (h : G28 s) : InS s := ⟨h.1.1, fun u hu => in32_of (h.1.2 u hu).2.1, in32_of h.2.1⟩
end Go.Proofs.Ytakkacdhlocckaa.Q18
