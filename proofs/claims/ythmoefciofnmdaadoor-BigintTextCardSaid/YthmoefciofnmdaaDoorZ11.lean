/-
  A region that draws its order, where all but a chain of its operations only look: the chain is carried out in its order, the others at any time before they are waited for. Plain theorems over any program.
-/
import Derived.Test.YthmoefciofnmdaaDoorZ10
set_option linter.unusedSimpArgs false
set_option linter.unusedVariables false
namespace Go.X
open Go Go.RowKit
section
variable {P : Program} {l : List Oper} {n : Nat} {K : Env → World → Prop} {e : Env} {w : World}
structure InvP (l : List Oper) (n : Nat) (Q done rest : List Nat) (listed : Array Bool) (a : Act) (E : Env) (ltr : List Nat) : Prop where
  size : listed.size = l.length
  tmps : a.tmps.size = n
  defs : a.defers = []
  parts : Q = done ++ rest
  isdone : ∀ q ∈ done, lst listed q
  open' : ∀ q ∈ rest, ¬ lst listed q
  cl : ∀ j oj, l[j]? = some oj → lst listed j → ∀ d ∈ depsOf oj, lst listed d
  late : ∀ i, i < l.length → i ∉ Q → ¬ lst listed i → i ∈ ltr
  sub : ∀ i ∈ ltr, i ∉ Q
  env : ∀ x, (∀ i, i < l.length → i ∉ Q → ¬ lst listed i → dstAt l i ≠ some x) → envOf a x = E x
end
end Go.X
