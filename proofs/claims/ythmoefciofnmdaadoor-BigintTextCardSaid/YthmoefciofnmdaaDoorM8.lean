/-
  Division: the parts. Plain theorems.
-/
import Derived.Test.YthmoefciofnmdaaDoorM3
import Derived.Test.YthmoefciofnmdaaDoorPB
set_option linter.unusedSimpArgs false
set_option linter.unusedVariables false
namespace Go.D
open Go Go.X
end Go.D
namespace Go.D
open Go Go.X
theorem getD_set {l : List Int} {n m : Nat} {y : Int} (h : n < l.length) : (l.set n y).getD m 0 = if n = m then y else l.getD m 0 := by
  rw [List.getD_eq_getElem?_getD, List.getD_eq_getElem?_getD, List.getElem?_set]
  by_cases e : n = m
  · subst e; simp [h]
  · simp [e]
end Go.D
