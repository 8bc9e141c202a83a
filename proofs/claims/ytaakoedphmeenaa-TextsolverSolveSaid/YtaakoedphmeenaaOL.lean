/- More fuel changes nothing. Written by a program of mine (wip/tool). -/
import Derived.Test.YtaakoedphmeenaaM1
import Derived.Test.YtaakoedphmeenaaPL
import Derived.Test.YtaakoedphmeenaaOA
import Derived.Test.YtaakoedphmeenaaOR
import Derived.Test.YtaakoedphmeenaaOT
set_option maxRecDepth 100000
set_option linter.unusedVariables false
set_option linter.unusedSimpArgs false
namespace Go.D
open Go Go.X
theorem lof_lo {N M : Nat} (h : N ≤ M)  (p : TProb) : Lo (lof N p) (lof M p) := by
 unfold lof
 try dsimp only
 repeat' first
  | with_reducible (first | exact Lo.refl _ | refine Lo.bind ?_ (fun _ => ?_) | refine Lo.ite ?_ ?_ | refine Lo.loop h (fun _ => ?_))
  | intro _ | split
theorem lequal_b1_lo {N M : Nat} (h : N ≤ M)  (a : (List (List UInt8))) (b : (List (List UInt8))) : ∀ ss0, Lo (lequal_b1 N a b ss0) (lequal_b1 M a b ss0) := by
 intro ss0
 unfold lequal_b1
 try dsimp only
 repeat' first
  | with_reducible (first | exact Lo.refl _ | refine Lo.bind ?_ (fun _ => ?_) | refine Lo.ite ?_ ?_ | refine Lo.loop h (fun _ => ?_))
  | intro _ | split
theorem lequal_lo {N M : Nat} (h : N ≤ M)  (a : (List (List UInt8))) (b : (List (List UInt8))) : Lo (lequal N a b) (lequal M a b) := by
 unfold lequal
 try dsimp only
 repeat' first
  | with_reducible (first | exact Lo.refl _ | apply lequal_b1_lo h | refine Lo.bind ?_ (fun _ => ?_) | refine Lo.ite ?_ ?_ | refine Lo.loop h (fun _ => ?_))
  | intro _ | split
theorem lnumbers_b1_lo {N M : Nat} (h : N ≤ M)  (a : (List Int)) (b : (List Int)) : ∀ ss0, Lo (lnumbers_b1 N a b ss0) (lnumbers_b1 M a b ss0) := by
 intro ss0
 unfold lnumbers_b1
 try dsimp only
 repeat' first
  | with_reducible (first | exact Lo.refl _ | refine Lo.bind ?_ (fun _ => ?_) | refine Lo.ite ?_ ?_ | refine Lo.loop h (fun _ => ?_))
  | intro _ | split
theorem lnumbers_lo {N M : Nat} (h : N ≤ M)  (a : (List Int)) (b : (List Int)) : Lo (lnumbers N a b) (lnumbers M a b) := by
 unfold lnumbers
 try dsimp only
 repeat' first
  | with_reducible (first | exact Lo.refl _ | apply lnumbers_b1_lo h | refine Lo.bind ?_ (fun _ => ?_) | refine Lo.ite ?_ ?_ | refine Lo.loop h (fun _ => ?_))
  | intro _ | split
theorem lexample_lo {N M : Nat} (h : N ≤ M)   : Lo (lexample N ) (lexample M ) := by
 unfold lexample
 try dsimp only
 repeat' first
  | with_reducible (first | exact Lo.refl _ | refine Lo.bind ?_ (fun _ => ?_) | refine Lo.ite ?_ ?_ | refine Lo.loop h (fun _ => ?_))
  | intro _ | split
theorem awake_lo {N M : Nat} (h : N ≤ M)   : Lo (awake N ) (awake M ) := by
 unfold awake
 try dsimp only
 repeat' first
  | with_reducible (first | exact Lo.refl _ | apply lequal_lo h | apply lexample_lo h | apply lnumbers_lo h | apply lof_lo h | apply tClasses_lo h | apply tLengths_lo h | apply tSatisfies_lo h | apply tSolve_lo h | refine Lo.bind ?_ (fun _ => ?_) | refine Lo.ite ?_ ?_ | refine Lo.loop h (fun _ => ?_))
  | intro _ | split
end Go.D
