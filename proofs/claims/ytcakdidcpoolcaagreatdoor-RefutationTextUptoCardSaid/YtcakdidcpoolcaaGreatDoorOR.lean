/- More fuel changes nothing. Written by a program of mine (wip/tool). -/
import Derived.Test.YtcakdidcpoolcaaGreatDoorM1
import Derived.Test.YtcakdidcpoolcaaGreatDoorOF25
import Derived.Test.YtcakdidcpoolcaaGreatDoorPR
import Derived.Test.YtcakdidcpoolcaaGreatDoorOA
set_option maxRecDepth 100000
set_option linter.unusedVariables false
set_option linter.unusedSimpArgs false
namespace Go.D
open Go Go.X
theorem rtrim_b1_lo {N M : Nat} (h : N ≤ M)   : ∀ ss0, Lo (rtrim_b1 N  ss0) (rtrim_b1 M  ss0) := by
 intro ss0
 unfold rtrim_b1
 try dsimp only
 repeat' first
  | with_reducible (first | exact Lo.refl _ | refine Lo.bind ?_ (fun _ => ?_) | refine Lo.ite ?_ ?_ | refine Lo.loop h (fun _ => ?_))
  | intro _ | split
theorem rtrim_lo {N M : Nat} (h : N ≤ M)  (l : (List Int)) : Lo (rtrim N l) (rtrim M l) := by
 unfold rtrim
 try dsimp only
 repeat' first
  | with_reducible (first | exact Lo.refl _ | apply rtrim_b1_lo h | refine Lo.bind ?_ (fun _ => ?_) | refine Lo.ite ?_ ?_ | refine Lo.loop h (fun _ => ?_))
  | intro _ | split
theorem rbig_b1_lo {N M : Nat} (h : N ≤ M)  (r6 : (List Int)) : ∀ ss0, Lo (rbig_b1 N r6 ss0) (rbig_b1 M r6 ss0) := by
 intro ss0
 unfold rbig_b1
 try dsimp only
 repeat' first
  | with_reducible (first | exact Lo.refl _ | refine Lo.bind ?_ (fun _ => ?_) | refine Lo.ite ?_ ?_ | refine Lo.loop h (fun _ => ?_))
  | intro _ | split
theorem rbig_lo {N M : Nat} (h : N ≤ M)  (negative : Bool) (l : (List Int)) : Lo (rbig N negative l) (rbig M negative l) := by
 unfold rbig
 try dsimp only
 repeat' first
  | with_reducible (first | exact Lo.refl _ | apply rbig_b1_lo h | apply rtrim_lo h | refine Lo.bind ?_ (fun _ => ?_) | refine Lo.ite ?_ ?_ | refine Lo.loop h (fun _ => ?_))
  | intro _ | split
theorem rOf_b1_lo {N M : Nat} (h : N ≤ M)   : ∀ ss0, Lo (rOf_b1 N  ss0) (rOf_b1 M  ss0) := by
 intro ss0
 unfold rOf_b1
 try dsimp only
 repeat' first
  | with_reducible (first | exact Lo.refl _ | refine Lo.bind ?_ (fun _ => ?_) | refine Lo.ite ?_ ?_ | refine Lo.loop h (fun _ => ?_))
  | intro _ | split
theorem rOf_lo {N M : Nat} (h : N ≤ M)  (n : Int) : Lo (rOf N n) (rOf M n) := by
 unfold rOf
 try dsimp only
 repeat' first
  | with_reducible (first | exact Lo.refl _ | apply rOf_b1_lo h | apply rbig_lo h | refine Lo.bind ?_ (fun _ => ?_) | refine Lo.ite ?_ ?_ | refine Lo.loop h (fun _ => ?_))
  | intro _ | split
end Go.D
