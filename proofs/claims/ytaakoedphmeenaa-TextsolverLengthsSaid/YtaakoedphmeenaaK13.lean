/-
 Solve finds a solution exactly if there is one. Plain theorems.
-/
import Derived.Test.YtaakoedphmeenaaK12
set_option linter.unusedSimpArgs false
set_option linter.unusedVariables false
namespace Go.D
open Go Go.X
structure Gr (m : Nat) (last : List Int) (removed : List Bool) (ns : List Nat) : Prop where
 e : last = nI ns
 nd : ns.Nodup
 lt : ∀ k ∈ ns, k < m
 len : removed.length = m
 iff : ∀ k, k < m → (removed[k]? = some true ↔ k ∈ ns)
end Go.D
