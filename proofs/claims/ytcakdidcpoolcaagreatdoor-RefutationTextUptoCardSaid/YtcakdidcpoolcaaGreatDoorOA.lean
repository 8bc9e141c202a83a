/- More fuel changes nothing. Written by a program of mine (wip/tool). -/
import Derived.Test.YtcakdidcpoolcaaGreatDoorM1
import Derived.Test.YtcakdidcpoolcaaGreatDoorOF25
import Derived.Test.YtcakdidcpoolcaaGreatDoorPA
set_option maxRecDepth 100000
set_option linter.unusedVariables false
set_option linter.unusedSimpArgs false
namespace Go.D
open Go Go.X
theorem cloneU32_lo {N M : Nat} (h : N ≤ M)  (s : (List Int)) : Lo (cloneU32 N s) (cloneU32 M s) := by
 unfold cloneU32
 try dsimp only
 repeat' first
  | with_reducible (first | exact Lo.refl _ | refine Lo.bind ?_ (fun _ => ?_) | refine Lo.ite ?_ ?_ | refine Lo.loop h (fun _ => ?_))
  | intro _ | split
theorem digit_lo {N M : Nat} (h : N ≤ M)  (d : (List Int)) (i : Int) : Lo (digit N d i) (digit M d i) := by
 unfold digit
 try dsimp only
 repeat' first
  | with_reducible (first | exact Lo.refl _ | refine Lo.bind ?_ (fun _ => ?_) | refine Lo.ite ?_ ?_ | refine Lo.loop h (fun _ => ?_))
  | intro _ | split
theorem bsign_lo {N M : Nat} (h : N ≤ M)  (n : Int) : Lo (bsign N n) (bsign M n) := by
 unfold bsign
 try dsimp only
 repeat' first
  | with_reducible (first | exact Lo.refl _ | refine Lo.bind ?_ (fun _ => ?_) | refine Lo.ite ?_ ?_ | refine Lo.loop h (fun _ => ?_))
  | intro _ | split
theorem btrim_b1_lo {N M : Nat} (h : N ≤ M)  (d : (List Int)) : ∀ ss0, Lo (btrim_b1 N d ss0) (btrim_b1 M d ss0) := by
 intro ss0
 unfold btrim_b1
 try dsimp only
 repeat' first
  | with_reducible (first | exact Lo.refl _ | refine Lo.bind ?_ (fun _ => ?_) | refine Lo.ite ?_ ?_ | refine Lo.loop h (fun _ => ?_))
  | intro _ | split
theorem btrim_lo {N M : Nat} (h : N ≤ M)  (d : (List Int)) : Lo (btrim N d) (btrim M d) := by
 unfold btrim
 try dsimp only
 repeat' first
  | with_reducible (first | exact Lo.refl _ | apply btrim_b1_lo h | apply cloneU32_lo h | refine Lo.bind ?_ (fun _ => ?_) | refine Lo.ite ?_ ?_ | refine Lo.loop h (fun _ => ?_))
  | intro _ | split
theorem bnormal_lo {N M : Nat} (h : N ≤ M)  (negative : Bool) (d : (List Int)) : Lo (bnormal N negative d) (bnormal M negative d) := by
 unfold bnormal
 try dsimp only
 repeat' first
  | with_reducible (first | exact Lo.refl _ | apply btrim_lo h | refine Lo.bind ?_ (fun _ => ?_) | refine Lo.ite ?_ ?_ | refine Lo.loop h (fun _ => ?_))
  | intro _ | split
theorem bcompare_b1_lo {N M : Nat} (h : N ≤ M)  (a : (List Int)) (b : (List Int)) : ∀ ss0, Lo (bcompare_b1 N a b ss0) (bcompare_b1 M a b ss0) := by
 intro ss0
 unfold bcompare_b1
 try dsimp only
 repeat' first
  | with_reducible (first | exact Lo.refl _ | refine Lo.bind ?_ (fun _ => ?_) | refine Lo.ite ?_ ?_ | refine Lo.loop h (fun _ => ?_))
  | intro _ | split
theorem bcompare_lo {N M : Nat} (h : N ≤ M)  (a : (List Int)) (b : (List Int)) : Lo (bcompare N a b) (bcompare M a b) := by
 unfold bcompare
 try dsimp only
 repeat' first
  | with_reducible (first | exact Lo.refl _ | apply bcompare_b1_lo h | apply bsign_lo h | refine Lo.bind ?_ (fun _ => ?_) | refine Lo.ite ?_ ?_ | refine Lo.loop h (fun _ => ?_))
  | intro _ | split
theorem bplus_b1_lo {N M : Nat} (h : N ≤ M)  (a : (List Int)) (b : (List Int)) (x2 : (List Int)) : ∀ ss0, Lo (bplus_b1 N a b x2 ss0) (bplus_b1 M a b x2 ss0) := by
 intro ss0
 unfold bplus_b1
 try dsimp only
 repeat' first
  | with_reducible (first | exact Lo.refl _ | apply digit_lo h | refine Lo.bind ?_ (fun _ => ?_) | refine Lo.ite ?_ ?_ | refine Lo.loop h (fun _ => ?_))
  | intro _ | split
theorem bplus_lo {N M : Nat} (h : N ≤ M)  (a : (List Int)) (b : (List Int)) : Lo (bplus N a b) (bplus M a b) := by
 unfold bplus
 try dsimp only
 repeat' first
  | with_reducible (first | exact Lo.refl _ | apply bplus_b1_lo h | refine Lo.bind ?_ (fun _ => ?_) | refine Lo.ite ?_ ?_ | refine Lo.loop h (fun _ => ?_))
  | intro _ | split
theorem bminus_b1_lo {N M : Nat} (h : N ≤ M)  (a : (List Int)) (b : (List Int)) : ∀ ss0, Lo (bminus_b1 N a b ss0) (bminus_b1 M a b ss0) := by
 intro ss0
 unfold bminus_b1
 try dsimp only
 repeat' first
  | with_reducible (first | exact Lo.refl _ | apply digit_lo h | refine Lo.bind ?_ (fun _ => ?_) | refine Lo.ite ?_ ?_ | refine Lo.loop h (fun _ => ?_))
  | intro _ | split
theorem bminus_lo {N M : Nat} (h : N ≤ M)  (a : (List Int)) (b : (List Int)) : Lo (bminus N a b) (bminus M a b) := by
 unfold bminus
 try dsimp only
 repeat' first
  | with_reducible (first | exact Lo.refl _ | apply bminus_b1_lo h | refine Lo.bind ?_ (fun _ => ?_) | refine Lo.ite ?_ ?_ | refine Lo.loop h (fun _ => ?_))
  | intro _ | split
theorem btimes_b2_lo {N M : Nat} (h : N ≤ M)  (b : (List Int)) (x475 : Int) (x491 : Int) : ∀ ss0, Lo (btimes_b2 N b x475 x491 ss0) (btimes_b2 M b x475 x491 ss0) := by
 intro ss0
 unfold btimes_b2
 try dsimp only
 repeat' first
  | with_reducible (first | exact Lo.refl _ | refine Lo.bind ?_ (fun _ => ?_) | refine Lo.ite ?_ ?_ | refine Lo.loop h (fun _ => ?_))
  | intro _ | split
theorem btimes_b1_lo {N M : Nat} (h : N ≤ M)  (a : (List Int)) (b : (List Int)) : ∀ ss0, Lo (btimes_b1 N a b ss0) (btimes_b1 M a b ss0) := by
 intro ss0
 unfold btimes_b1
 try dsimp only
 repeat' first
  | with_reducible (first | exact Lo.refl _ | apply btimes_b2_lo h | refine Lo.bind ?_ (fun _ => ?_) | refine Lo.ite ?_ ?_ | refine Lo.loop h (fun _ => ?_))
  | intro _ | split
theorem btimes_lo {N M : Nat} (h : N ≤ M)  (a : (List Int)) (b : (List Int)) : Lo (btimes N a b) (btimes M a b) := by
 unfold btimes
 try dsimp only
 repeat' first
  | with_reducible (first | exact Lo.refl _ | apply btimes_b1_lo h | refine Lo.bind ?_ (fun _ => ?_) | refine Lo.ite ?_ ?_ | refine Lo.loop h (fun _ => ?_))
  | intro _ | split
theorem bshort_b1_lo {N M : Nat} (h : N ≤ M)  (a : (List Int)) (pb : Int) : ∀ ss0, Lo (bshort_b1 N a pb ss0) (bshort_b1 M a pb ss0) := by
 intro ss0
 unfold bshort_b1
 try dsimp only
 repeat' first
  | with_reducible (first | exact Lo.refl _ | refine Lo.bind ?_ (fun _ => ?_) | refine Lo.ite ?_ ?_ | refine Lo.loop h (fun _ => ?_))
  | intro _ | split
theorem bshort_lo {N M : Nat} (h : N ≤ M)  (a : (List Int)) (pb : Int) : Lo (bshort N a pb) (bshort M a pb) := by
 unfold bshort
 try dsimp only
 repeat' first
  | with_reducible (first | exact Lo.refl _ | apply bshort_b1_lo h | refine Lo.bind ?_ (fun _ => ?_) | refine Lo.ite ?_ ?_ | refine Lo.loop h (fun _ => ?_))
  | intro _ | split
end Go.D
