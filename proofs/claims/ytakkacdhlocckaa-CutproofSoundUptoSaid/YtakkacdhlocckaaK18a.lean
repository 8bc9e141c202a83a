/- From what the arguments read as to what the laws need. -/
import Derived.Test.YtakkacdhlocckaaQ18
import Derived.Test.YtakkacdhlocckaaM6a
namespace Go.Proofs.Ytakkacdhlocckaa.Q18
open Go Go.RowKit Go.X Go.D
theorem inB_of {l : List Int} (h : G24 l) : InB W32 l := fun x hx => by
  have := bounds_u32 (h.2 x hx)
  simp only [W32]; omega
theorem in32_of {x : Big} (h : G26 x) : In32 x := inB_of h.2.1
theorem bigs_of {l : List Big} (h : G32 l) : ∀ b ∈ l, In32 b := fun b hb => in32_of (h.2 b hb)
theorem inI_of {q : Ineq} (h : G34 q) : InI q := ⟨h.1.1, bigs_of h.1, in32_of h.2.1⟩
end Go.Proofs.Ytakkacdhlocckaa.Q18
