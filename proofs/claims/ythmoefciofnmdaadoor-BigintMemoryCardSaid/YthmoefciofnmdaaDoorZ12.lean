/-
  Calls that write to what the caller owns: it is lent, and comes back changed. A row that is appended to and used again as it was. Plain theorems over any program.
-/
import Derived.Test.YthmoefciofnmdaaDoorZ11
set_option linter.unusedSimpArgs false
set_option linter.unusedVariables false
namespace Go.X
open Go Go.RowKit
section
variable {P : Program} {s : Nat} {S : Nat → Prop} {X O O' O'' OR : List (Option Nat)} {C C' C'' CR : List Cont} {w w' w0 : World} {α : Type} {r : Rep α} {H : Hp}
theorem RlL.fin {l : List Oper} {K : Env → World → Prop} {lt : List Nat} {e : Env} (h : K e w) : RlL P l K lt [] e w := h
end
end Go.X
