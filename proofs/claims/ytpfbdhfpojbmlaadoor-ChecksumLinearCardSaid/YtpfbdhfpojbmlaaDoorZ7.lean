/-
  What two operations of a drawn region make lies apart. Plain theorems over any program.
-/
import Derived.Test.YtpfbdhfpojbmlaaDoorZ6
set_option linter.unusedSimpArgs false
set_option linter.unusedVariables false
namespace Go.X
open Go
theorem apE {cs : List (List Nat)} {x y : FE} {r : List FE} (h : apartE cs x (y :: r)) (h1 : endsB cs x.idx = true) (h2 : endsB cs y.idx = true) : ∀ b, some b ∈ x.ft → some b ∉ y.ft := by
  have := h.1
  rw [h1, h2] at this
  exact this
end Go.X
