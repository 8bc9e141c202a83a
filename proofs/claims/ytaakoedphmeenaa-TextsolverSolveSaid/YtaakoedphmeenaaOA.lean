/- More fuel changes nothing. Written by a program of mine (wip/tool). -/
import Derived.Test.YtaakoedphmeenaaM1
import Derived.Test.YtaakoedphmeenaaPA
set_option maxRecDepth 100000
set_option linter.unusedVariables false
set_option linter.unusedSimpArgs false
namespace Go.D
open Go Go.X
theorem pClosure_b1_lo {N M : Nat} (h : N ≤ M)  (pattern : (List UInt8)) : ∀ ss0, Lo (pClosure_b1 N pattern ss0) (pClosure_b1 M pattern ss0) := by
 intro ss0
 unfold pClosure_b1
 try dsimp only
 repeat' first
  | with_reducible (first | exact Lo.refl _ | refine Lo.bind ?_ (fun _ => ?_) | refine Lo.ite ?_ ?_ | refine Lo.loop h (fun _ => ?_))
  | intro _ | split
theorem pClosure_lo {N M : Nat} (h : N ≤ M)  (pattern : (List UInt8)) (vset : Int) : Lo (pClosure N pattern vset) (pClosure M pattern vset) := by
 unfold pClosure
 try dsimp only
 repeat' first
  | with_reducible (first | exact Lo.refl _ | apply pClosure_b1_lo h | refine Lo.bind ?_ (fun _ => ?_) | refine Lo.ite ?_ ?_ | refine Lo.loop h (fun _ => ?_))
  | intro _ | split
theorem pBegin_lo {N M : Nat} (h : N ≤ M)  (t : TTest) : Lo (pBegin N t) (pBegin M t) := by
 unfold pBegin
 try dsimp only
 repeat' first
  | with_reducible (first | exact Lo.refl _ | apply pClosure_lo h | refine Lo.bind ?_ (fun _ => ?_) | refine Lo.ite ?_ ?_ | refine Lo.loop h (fun _ => ?_))
  | intro _ | split
theorem pNext_b1_lo {N M : Nat} (h : N ≤ M)  (c : Int) (s : Int) (t : TTest) : ∀ ss0, Lo (pNext_b1 N c s t ss0) (pNext_b1 M c s t ss0) := by
 intro ss0
 unfold pNext_b1
 try dsimp only
 repeat' first
  | with_reducible (first | exact Lo.refl _ | refine Lo.bind ?_ (fun _ => ?_) | refine Lo.ite ?_ ?_ | refine Lo.loop h (fun _ => ?_))
  | intro _ | split
theorem pNext_lo {N M : Nat} (h : N ≤ M)  (t : TTest) (s : Int) (c : Int) : Lo (pNext N t s c) (pNext M t s c) := by
 unfold pNext
 try dsimp only
 repeat' first
  | with_reducible (first | exact Lo.refl _ | apply pClosure_lo h | apply pNext_b1_lo h | refine Lo.bind ?_ (fun _ => ?_) | refine Lo.ite ?_ ?_ | refine Lo.loop h (fun _ => ?_))
  | intro _ | split
theorem pPassed_lo {N M : Nat} (h : N ≤ M)  (t : TTest) (s : Int) : Lo (pPassed N t s) (pPassed M t s) := by
 unfold pPassed
 try dsimp only
 repeat' first
  | with_reducible (first | exact Lo.refl _ | refine Lo.bind ?_ (fun _ => ?_) | refine Lo.ite ?_ ?_ | refine Lo.loop h (fun _ => ?_))
  | intro _ | split
theorem pPasses_b1_lo {N M : Nat} (h : N ≤ M)  (t : TTest) (text : (List UInt8)) : ∀ ss0, Lo (pPasses_b1 N t text ss0) (pPasses_b1 M t text ss0) := by
 intro ss0
 unfold pPasses_b1
 try dsimp only
 repeat' first
  | with_reducible (first | exact Lo.refl _ | apply pNext_lo h | refine Lo.bind ?_ (fun _ => ?_) | refine Lo.ite ?_ ?_ | refine Lo.loop h (fun _ => ?_))
  | intro _ | split
theorem pPasses_lo {N M : Nat} (h : N ≤ M)  (t : TTest) (text : (List UInt8)) : Lo (pPasses N t text) (pPasses M t text) := by
 unfold pPasses
 try dsimp only
 repeat' first
  | with_reducible (first | exact Lo.refl _ | apply pBegin_lo h | apply pPassed_lo h | apply pPasses_b1_lo h | refine Lo.bind ?_ (fun _ => ?_) | refine Lo.ite ?_ ?_ | refine Lo.loop h (fun _ => ?_))
  | intro _ | split
theorem pKey_b1_lo {N M : Nat} (h : N ≤ M)  (l : (List Int)) : ∀ ss0, Lo (pKey_b1 N l ss0) (pKey_b1 M l ss0) := by
 intro ss0
 unfold pKey_b1
 try dsimp only
 repeat' first
  | with_reducible (first | exact Lo.refl _ | refine Lo.bind ?_ (fun _ => ?_) | refine Lo.ite ?_ ?_ | refine Lo.loop h (fun _ => ?_))
  | intro _ | split
theorem pKey_lo {N M : Nat} (h : N ≤ M)  (l : (List Int)) (left : Int) : Lo (pKey N l left) (pKey M l left) := by
 unfold pKey
 try dsimp only
 repeat' first
  | with_reducible (first | exact Lo.refl _ | apply pKey_b1_lo h | refine Lo.bind ?_ (fun _ => ?_) | refine Lo.ite ?_ ?_ | refine Lo.loop h (fun _ => ?_))
  | intro _ | split
theorem pFind_b1_lo {N M : Nat} (h : N ≤ M)  (f : TFinder) (l : (List Int)) : ∀ ss0, Lo (pFind_b1 N f l ss0) (pFind_b1 M f l ss0) := by
 intro ss0
 unfold pFind_b1
 try dsimp only
 repeat' first
  | with_reducible (first | exact Lo.refl _ | apply pPassed_lo h | refine Lo.bind ?_ (fun _ => ?_) | refine Lo.ite ?_ ?_ | refine Lo.loop h (fun _ => ?_))
  | intro _ | split
theorem pFind_b3_lo {N M : Nat} (h : N ≤ M)  (f : TFinder) (l : (List Int)) (c2385 : Int) : ∀ ss0, Lo (pFind_b3 N f l c2385 ss0) (pFind_b3 M f l c2385 ss0) := by
 intro ss0
 unfold pFind_b3
 try dsimp only
 repeat' first
  | with_reducible (first | exact Lo.refl _ | apply pNext_lo h | refine Lo.bind ?_ (fun _ => ?_) | refine Lo.ite ?_ ?_ | refine Lo.loop h (fun _ => ?_))
  | intro _ | split
theorem pFind_b2_lo {N M : Nat} (h : N ≤ M) {self self' : TFinder → (List Int) → (List Int) → Int → Option (Bool × (List (List UInt8)) × (List ((List UInt8) × Bool)))} (hself : ∀ y0 y1 y2 y3, Lo (self y0 y1 y2 y3) (self' y0 y1 y2 y3)) (f : TFinder) (l : (List Int)) (left : Int) (text : (List Int)) : ∀ ss0, Lo (pFind_b2 N self f l left text ss0) (pFind_b2 M self' f l left text ss0) := by
 intro ss0
 unfold pFind_b2
 try dsimp only
 repeat' first
  | with_reducible (first | exact Lo.refl _ | exact hself | exact hself _ _ _ _ | apply pFind_b3_lo h | refine Lo.bind ?_ (fun _ => ?_) | refine Lo.ite ?_ ?_ | refine Lo.loop h (fun _ => ?_))
  | intro _ | split
theorem pFind_step_lo {N M : Nat} (h : N ≤ M) {self self' : TFinder → (List Int) → (List Int) → Int → Option (Bool × (List (List UInt8)) × (List ((List UInt8) × Bool)))} (hself : ∀ y0 y1 y2 y3, Lo (self y0 y1 y2 y3) (self' y0 y1 y2 y3)) (f : TFinder) (l : (List Int)) (text : (List Int)) (left : Int) : Lo (pFind_step N self f l text left) (pFind_step M self' f l text left) := by
 unfold pFind_step
 try dsimp only
 repeat' first
  | with_reducible (first | exact Lo.refl _ | exact hself | exact hself _ _ _ _ | apply pFind_b1_lo h | apply pFind_b2_lo h | apply pKey_lo h | refine Lo.bind ?_ (fun _ => ?_) | refine Lo.ite ?_ ?_ | refine Lo.loop h (fun _ => ?_))
  | intro _ | split
theorem pFind_lo : ∀ {N M : Nat} (_ : N ≤ M) a0 a1 a2 a3, Lo (pFind N a0 a1 a2 a3) (pFind M a0 a1 a2 a3)
 | 0, _, _ => fun _ _ _ _ => Lo.none
 | N + 1, 0, h => by omega
 | N + 1, M + 1, h => pFind_step_lo (by omega) (pFind_lo (by omega))
theorem pWords_b1_lo {N M : Nat} (h : N ≤ M)  (l : (List TTest)) (length : Int) : ∀ ss0, Lo (pWords_b1 N l length ss0) (pWords_b1 M l length ss0) := by
 intro ss0
 unfold pWords_b1
 try dsimp only
 repeat' first
  | with_reducible (first | exact Lo.refl _ | apply pBegin_lo h | refine Lo.bind ?_ (fun _ => ?_) | refine Lo.ite ?_ ?_ | refine Lo.loop h (fun _ => ?_))
  | intro _ | split
theorem pWords_lo {N M : Nat} (h : N ≤ M)  (l : (List TTest)) (length : Int) (most : Int) : Lo (pWords N l length most) (pWords M l length most) := by
 unfold pWords
 try dsimp only
 repeat' first
  | with_reducible (first | exact Lo.refl _ | apply pFind_lo h | apply pWords_b1_lo h | refine Lo.bind ?_ (fun _ => ?_) | refine Lo.ite ?_ ?_ | refine Lo.loop h (fun _ => ?_))
  | intro _ | split
end Go.D
