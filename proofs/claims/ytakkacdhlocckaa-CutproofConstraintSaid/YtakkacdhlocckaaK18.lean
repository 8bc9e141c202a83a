/- From what the arguments read as to what the laws need. -/
import Derived.Test.YtakkacdhlocckaaK18a
import Derived.Test.YtakkacdhlocckaaM7
namespace Go.Proofs.Ytakkacdhlocckaa.Q18
open Go Go.RowKit Go.X Go.D
theorem okC_of {c : Constraint} (h : G63 c) : OkC c := ⟨h.1.2.1.1, bounds_i64 h.1.1, fun k hk => bounds_i64 (h.1.2.1.2 k hk).2.1⟩
theorem ints16_of {l : List Int} (h : G68 l) : ∀ v ∈ l, -32768 ≤ v ∧ v ≤ 32767 := fun v hv => bounds_i16 (h.2 v hv)
end Go.Proofs.Ytakkacdhlocckaa.Q18
