/- More fuel changes nothing. Written by a program of mine (wip/tool). -/
import Derived.Test.YthmoefciofnmdaaDoorM1
import Derived.Test.YthmoefciofnmdaaDoorOF
import Derived.Test.YthmoefciofnmdaaDoorPB
import Derived.Test.YthmoefciofnmdaaDoorOA
import Derived.Test.YthmoefciofnmdaaDoorOR
set_option linter.unusedVariables false
set_option linter.unusedSimpArgs false
namespace Go.D
open Go Go.X
theorem len32_lo {N M : Nat} (h : N ≤ M)  (x : Int) : Lo (len32 N x) (len32 M x) := by
  unfold len32
  try dsimp only
  repeat' first
    | with_reducible exact Lo.refl _
    | with_reducible refine Lo.bind ?_ (fun _ => ?_)
    | with_reducible refine Lo.ite ?_ ?_
    | with_reducible refine Lo.loop h (fun _ => ?_)
    | intro _
    | split
theorem lz32_lo {N M : Nat} (h : N ≤ M)  (x : Int) : Lo (lz32 N x) (lz32 M x) := by
  unfold lz32
  try dsimp only
  repeat' first
    | with_reducible exact Lo.refl _
    | with_reducible apply len32_lo h
    | with_reducible refine Lo.bind ?_ (fun _ => ?_)
    | with_reducible refine Lo.ite ?_ ?_
    | with_reducible refine Lo.loop h (fun _ => ?_)
    | intro _
    | split
theorem bdivide_b2_lo {N M : Nat} (h : N ≤ M)  (b : (List Int)) (x144 : (List Int)) (u7582 : (List Int)) (i7593 : Int) : ∀ ss0, Lo (bdivide_b2 N b x144 u7582 i7593 ss0) (bdivide_b2 M b x144 u7582 i7593 ss0) := by
  intro ss0
  unfold bdivide_b2
  try dsimp only
  repeat' first
    | with_reducible exact Lo.refl _
    | with_reducible refine Lo.bind ?_ (fun _ => ?_)
    | with_reducible refine Lo.ite ?_ ?_
    | with_reducible refine Lo.loop h (fun _ => ?_)
    | intro _
    | split
theorem bdivide_b3_lo {N M : Nat} (h : N ≤ M)  (b : (List Int)) (x144 : (List Int)) (i7593 : Int) (guess9110 : Int) : ∀ ss0, Lo (bdivide_b3 N b x144 i7593 guess9110 ss0) (bdivide_b3 M b x144 i7593 guess9110 ss0) := by
  intro ss0
  unfold bdivide_b3
  try dsimp only
  repeat' first
    | with_reducible exact Lo.refl _
    | with_reducible apply digit_lo h
    | with_reducible refine Lo.bind ?_ (fun _ => ?_)
    | with_reducible refine Lo.ite ?_ ?_
    | with_reducible refine Lo.loop h (fun _ => ?_)
    | intro _
    | split
theorem bdivide_b4_lo {N M : Nat} (h : N ≤ M)  (x144 : (List Int)) (i7593 : Int) : ∀ ss0, Lo (bdivide_b4 N x144 i7593 ss0) (bdivide_b4 M x144 i7593 ss0) := by
  intro ss0
  unfold bdivide_b4
  try dsimp only
  repeat' first
    | with_reducible exact Lo.refl _
    | with_reducible refine Lo.bind ?_ (fun _ => ?_)
    | with_reducible refine Lo.ite ?_ ?_
    | with_reducible refine Lo.loop h (fun _ => ?_)
    | intro _
    | split
theorem bdivide_b1_lo {N M : Nat} (h : N ≤ M)  (b : (List Int)) (x144 : (List Int)) : ∀ ss0, Lo (bdivide_b1 N b x144 ss0) (bdivide_b1 M b x144 ss0) := by
  intro ss0
  unfold bdivide_b1
  try dsimp only
  repeat' first
    | with_reducible exact Lo.refl _
    | with_reducible apply bdivide_b2_lo h
    | with_reducible apply bdivide_b3_lo h
    | with_reducible apply bdivide_b4_lo h
    | with_reducible refine Lo.bind ?_ (fun _ => ?_)
    | with_reducible refine Lo.ite ?_ ?_
    | with_reducible refine Lo.loop h (fun _ => ?_)
    | intro _
    | split
theorem bdivide_b5_lo {N M : Nat} (h : N ≤ M)  (r115 : Int) (u7596 : (List Int)) (x11278 : (List Int)) : ∀ ss0, Lo (bdivide_b5 N r115 u7596 x11278 ss0) (bdivide_b5 M r115 u7596 x11278 ss0) := by
  intro ss0
  unfold bdivide_b5
  try dsimp only
  repeat' first
    | with_reducible exact Lo.refl _
    | with_reducible refine Lo.bind ?_ (fun _ => ?_)
    | with_reducible refine Lo.ite ?_ ?_
    | with_reducible refine Lo.loop h (fun _ => ?_)
    | intro _
    | split
theorem bdivide_lo {N M : Nat} (h : N ≤ M)  (a : (List Int)) (b : (List Int)) : Lo (bdivide N a b) (bdivide M a b) := by
  unfold bdivide
  try dsimp only
  repeat' first
    | with_reducible exact Lo.refl _
    | with_reducible apply bcompare_lo h
    | with_reducible apply bdivide_b1_lo h
    | with_reducible apply bdivide_b5_lo h
    | with_reducible apply bshift_lo h
    | with_reducible apply bshort_lo h
    | with_reducible apply btrim_lo h
    | with_reducible apply lz32_lo h
    | with_reducible refine Lo.bind ?_ (fun _ => ?_)
    | with_reducible refine Lo.ite ?_ ?_
    | with_reducible refine Lo.loop h (fun _ => ?_)
    | intro _
    | split
theorem bOf_lo {N M : Nat} (h : N ≤ M)  (n : Int) : Lo (bOf N n) (bOf M n) := by
  unfold bOf
  try dsimp only
  repeat' first
    | with_reducible exact Lo.refl _
    | with_reducible apply bnormal_lo h
    | with_reducible refine Lo.bind ?_ (fun _ => ?_)
    | with_reducible refine Lo.ite ?_ ?_
    | with_reducible refine Lo.loop h (fun _ => ?_)
    | intro _
    | split
theorem bNormal_lo {N M : Nat} (h : N ≤ M)  (x : Big) : Lo (bNormal N x) (bNormal M x) := by
  unfold bNormal
  try dsimp only
  repeat' first
    | with_reducible exact Lo.refl _
    | with_reducible apply bnormal_lo h
    | with_reducible refine Lo.bind ?_ (fun _ => ?_)
    | with_reducible refine Lo.ite ?_ ?_
    | with_reducible refine Lo.loop h (fun _ => ?_)
    | intro _
    | split
theorem bDivFloor_lo {N M : Nat} (h : N ≤ M)  (a : Big) (b : Big) : Lo (bDivFloor N a b) (bDivFloor M a b) := by
  unfold bDivFloor
  try dsimp only
  repeat' first
    | with_reducible exact Lo.refl _
    | with_reducible apply bNormal_lo h
    | with_reducible apply bdivide_lo h
    | with_reducible apply bminus_lo h
    | with_reducible apply bnormal_lo h
    | with_reducible apply bplus_lo h
    | with_reducible refine Lo.bind ?_ (fun _ => ?_)
    | with_reducible refine Lo.ite ?_ ?_
    | with_reducible refine Lo.loop h (fun _ => ?_)
    | intro _
    | split
theorem bGCD_b1_lo {N M : Nat} (h : N ≤ M)   : ∀ ss0, Lo (bGCD_b1 N  ss0) (bGCD_b1 M  ss0) := by
  intro ss0
  unfold bGCD_b1
  try dsimp only
  repeat' first
    | with_reducible exact Lo.refl _
    | with_reducible apply bdivide_lo h
    | with_reducible refine Lo.bind ?_ (fun _ => ?_)
    | with_reducible refine Lo.ite ?_ ?_
    | with_reducible refine Lo.loop h (fun _ => ?_)
    | intro _
    | split
theorem bGCD_lo {N M : Nat} (h : N ≤ M)  (a : Big) (b : Big) : Lo (bGCD N a b) (bGCD M a b) := by
  unfold bGCD
  try dsimp only
  repeat' first
    | with_reducible exact Lo.refl _
    | with_reducible apply bGCD_b1_lo h
    | with_reducible apply bnormal_lo h
    | with_reducible apply btrim_lo h
    | with_reducible refine Lo.bind ?_ (fun _ => ?_)
    | with_reducible refine Lo.ite ?_ ?_
    | with_reducible refine Lo.loop h (fun _ => ?_)
    | intro _
    | split
theorem bFormat_b1_lo {N M : Nat} (h : N ≤ M)   : ∀ ss0, Lo (bFormat_b1 N  ss0) (bFormat_b1 M  ss0) := by
  intro ss0
  unfold bFormat_b1
  try dsimp only
  repeat' first
    | with_reducible exact Lo.refl _
    | with_reducible apply bshort_lo h
    | with_reducible apply btrim_lo h
    | with_reducible apply formatUint_lo h
    | with_reducible apply repeatStr_lo h
    | with_reducible refine Lo.bind ?_ (fun _ => ?_)
    | with_reducible refine Lo.ite ?_ ?_
    | with_reducible refine Lo.loop h (fun _ => ?_)
    | intro _
    | split
theorem bFormat_lo {N M : Nat} (h : N ≤ M)  (x : Big) : Lo (bFormat N x) (bFormat M x) := by
  unfold bFormat
  try dsimp only
  repeat' first
    | with_reducible exact Lo.refl _
    | with_reducible apply bFormat_b1_lo h
    | with_reducible apply bNormal_lo h
    | with_reducible apply joinStr_lo h
    | with_reducible refine Lo.bind ?_ (fun _ => ?_)
    | with_reducible refine Lo.ite ?_ ?_
    | with_reducible refine Lo.loop h (fun _ => ?_)
    | intro _
    | split
theorem bParse_b1_lo {N M : Nat} (h : N ≤ M)  (r6 : (List UInt8)) : ∀ ss0, Lo (bParse_b1 N r6 ss0) (bParse_b1 M r6 ss0) := by
  intro ss0
  unfold bParse_b1
  try dsimp only
  repeat' first
    | with_reducible exact Lo.refl _
    | with_reducible apply bplus_lo h
    | with_reducible apply btimes_lo h
    | with_reducible apply btrim_lo h
    | with_reducible refine Lo.bind ?_ (fun _ => ?_)
    | with_reducible refine Lo.ite ?_ ?_
    | with_reducible refine Lo.loop h (fun _ => ?_)
    | intro _
    | split
theorem bParse_lo {N M : Nat} (h : N ≤ M)  (s : (List UInt8)) : Lo (bParse N s) (bParse M s) := by
  unfold bParse
  try dsimp only
  repeat' first
    | with_reducible exact Lo.refl _
    | with_reducible apply bParse_b1_lo h
    | with_reducible apply bnormal_lo h
    | with_reducible apply trimPre_lo h
    | with_reducible refine Lo.bind ?_ (fun _ => ?_)
    | with_reducible refine Lo.ite ?_ ?_
    | with_reducible refine Lo.loop h (fun _ => ?_)
    | intro _
    | split
end Go.D
