/- More fuel changes nothing. Written by a program of mine (wip/tool). -/
import Derived.Test.YtakkacdhlocckaaM1
import Derived.Test.YtakkacdhlocckaaPL
import Derived.Test.YtakkacdhlocckaaOA
import Derived.Test.YtakkacdhlocckaaOR
import Derived.Test.YtakkacdhlocckaaOB
import Derived.Test.YtakkacdhlocckaaOC
import Derived.Test.YtakkacdhlocckaaOD
set_option linter.unusedVariables false
namespace Go.D
open Go Go.X
theorem lbig_lo {N M : Nat} (h : N ≤ M)  (n : Int) : Lo (lbig N n) (lbig M n) := by
  unfold lbig
  try dsimp only
  repeat' first
    | with_reducible exact Lo.refl _
    | with_reducible apply rOf_lo h
    | with_reducible refine Lo.bind ?_ (fun _ => ?_)
    | with_reducible refine Lo.ite ?_ ?_
    | with_reducible refine Lo.loop h (fun _ => ?_)
    | intro _
    | split
theorem linequality_lo {N M : Nat} (h : N ≤ M)  (coef : Int) (bound : Int) : Lo (linequality N coef bound) (linequality M coef bound) := by
  unfold linequality
  try dsimp only
  repeat' first
    | with_reducible exact Lo.refl _
    | with_reducible apply lbig_lo h
    | with_reducible refine Lo.bind ?_ (fun _ => ?_)
    | with_reducible refine Lo.ite ?_ ?_
    | with_reducible refine Lo.loop h (fun _ => ?_)
    | intro _
    | split
theorem luse_lo {N M : Nat} (h : N ≤ M)  (i : Int) (n : Int) : Lo (luse N i n) (luse M i n) := by
  unfold luse
  try dsimp only
  repeat' first
    | with_reducible exact Lo.refl _
    | with_reducible apply lbig_lo h
    | with_reducible refine Lo.bind ?_ (fun _ => ?_)
    | with_reducible refine Lo.ite ?_ ?_
    | with_reducible refine Lo.loop h (fun _ => ?_)
    | intro _
    | split
theorem awake_lo {N M : Nat} (h : N ≤ M)   : Lo (awake N ) (awake M ) := by
  unfold awake
  try dsimp only
  repeat' first
    | with_reducible exact Lo.refl _
    | with_reducible apply cCheck_lo h
    | with_reducible apply cSize_lo h
    | with_reducible apply cSum_lo h
    | with_reducible apply lbig_lo h
    | with_reducible apply linequality_lo h
    | with_reducible apply luse_lo h
    | with_reducible refine Lo.bind ?_ (fun _ => ?_)
    | with_reducible refine Lo.ite ?_ ?_
    | with_reducible refine Lo.loop h (fun _ => ?_)
    | intro _
    | split
end Go.D
