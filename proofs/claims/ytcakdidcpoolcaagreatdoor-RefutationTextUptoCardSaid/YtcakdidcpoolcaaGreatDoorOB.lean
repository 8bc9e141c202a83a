/- More fuel changes nothing. Written by a program of mine (wip/tool). -/
import Derived.Test.YtcakdidcpoolcaaGreatDoorM1
import Derived.Test.YtcakdidcpoolcaaGreatDoorOF25
import Derived.Test.YtcakdidcpoolcaaGreatDoorPB
import Derived.Test.YtcakdidcpoolcaaGreatDoorOA
import Derived.Test.YtcakdidcpoolcaaGreatDoorOR
set_option maxRecDepth 100000
set_option linter.unusedVariables false
set_option linter.unusedSimpArgs false
namespace Go.D
open Go Go.X
theorem bdivide_lo {N M : Nat} (h : N ≤ M)  (a : (List Int)) (b : (List Int)) : Lo (bdivide N a b) (bdivide M a b) := by
 unfold bdivide
 try dsimp only
 repeat' first
  | with_reducible (first | exact Lo.refl _ | apply bcompare_lo h | apply bshort_lo h | apply btrim_lo h | refine Lo.bind ?_ (fun _ => ?_) | refine Lo.ite ?_ ?_ | refine Lo.loop h (fun _ => ?_))
  | intro _ | split
theorem bOf_lo {N M : Nat} (h : N ≤ M)  (n : Int) : Lo (bOf N n) (bOf M n) := by
 unfold bOf
 try dsimp only
 repeat' first
  | with_reducible (first | exact Lo.refl _ | apply bnormal_lo h | refine Lo.bind ?_ (fun _ => ?_) | refine Lo.ite ?_ ?_ | refine Lo.loop h (fun _ => ?_))
  | intro _ | split
theorem bNormal_lo {N M : Nat} (h : N ≤ M)  (x : Big) : Lo (bNormal N x) (bNormal M x) := by
 unfold bNormal
 try dsimp only
 repeat' first
  | with_reducible (first | exact Lo.refl _ | apply bnormal_lo h | refine Lo.bind ?_ (fun _ => ?_) | refine Lo.ite ?_ ?_ | refine Lo.loop h (fun _ => ?_))
  | intro _ | split
theorem bSign_lo {N M : Nat} (h : N ≤ M)  (x : Big) : Lo (bSign N x) (bSign M x) := by
 unfold bSign
 try dsimp only
 repeat' first
  | with_reducible (first | exact Lo.refl _ | apply bNormal_lo h | refine Lo.bind ?_ (fun _ => ?_) | refine Lo.ite ?_ ?_ | refine Lo.loop h (fun _ => ?_))
  | intro _ | split
theorem bNeg_lo {N M : Nat} (h : N ≤ M)  (x : Big) : Lo (bNeg N x) (bNeg M x) := by
 unfold bNeg
 try dsimp only
 repeat' first
  | with_reducible (first | exact Lo.refl _ | apply bnormal_lo h | refine Lo.bind ?_ (fun _ => ?_) | refine Lo.ite ?_ ?_ | refine Lo.loop h (fun _ => ?_))
  | intro _ | split
theorem bAdd_lo {N M : Nat} (h : N ≤ M)  (a : Big) (b : Big) : Lo (bAdd N a b) (bAdd M a b) := by
 unfold bAdd
 try dsimp only
 repeat' first
  | with_reducible (first | exact Lo.refl _ | apply bNormal_lo h | apply bcompare_lo h | apply bminus_lo h | apply bnormal_lo h | apply bplus_lo h | refine Lo.bind ?_ (fun _ => ?_) | refine Lo.ite ?_ ?_ | refine Lo.loop h (fun _ => ?_))
  | intro _ | split
theorem bSub_lo {N M : Nat} (h : N ≤ M)  (a : Big) (b : Big) : Lo (bSub N a b) (bSub M a b) := by
 unfold bSub
 try dsimp only
 repeat' first
  | with_reducible (first | exact Lo.refl _ | apply bAdd_lo h | apply bNeg_lo h | refine Lo.bind ?_ (fun _ => ?_) | refine Lo.ite ?_ ?_ | refine Lo.loop h (fun _ => ?_))
  | intro _ | split
theorem bMul_lo {N M : Nat} (h : N ≤ M)  (a : Big) (b : Big) : Lo (bMul N a b) (bMul M a b) := by
 unfold bMul
 try dsimp only
 repeat' first
  | with_reducible (first | exact Lo.refl _ | apply bnormal_lo h | apply btimes_lo h | refine Lo.bind ?_ (fun _ => ?_) | refine Lo.ite ?_ ?_ | refine Lo.loop h (fun _ => ?_))
  | intro _ | split
theorem bDivFloor_lo {N M : Nat} (h : N ≤ M)  (a : Big) (b : Big) : Lo (bDivFloor N a b) (bDivFloor M a b) := by
 unfold bDivFloor
 try dsimp only
 repeat' first
  | with_reducible (first | exact Lo.refl _ | apply bNormal_lo h | apply bdivide_lo h | apply bminus_lo h | apply bnormal_lo h | apply bplus_lo h | refine Lo.bind ?_ (fun _ => ?_) | refine Lo.ite ?_ ?_ | refine Lo.loop h (fun _ => ?_))
  | intro _ | split
end Go.D
