/- More fuel changes nothing. Written by a program of mine (wip/tool). -/
import Derived.Test.YtckhldmpcddjmaaDoorM1
import Derived.Test.YtckhldmpcddjmaaDoorOF20
import Derived.Test.YtckhldmpcddjmaaDoorPA
set_option linter.unusedVariables false
set_option linter.unusedSimpArgs false
namespace Go.D
open Go Go.X
theorem aStep_b1_lo {N M : Nat} (h : N ≤ M)  (c : Int) (x3 : (List AEdge)) : ∀ ss0, Lo (aStep_b1 N c x3 ss0) (aStep_b1 M c x3 ss0) := by
  intro ss0
  unfold aStep_b1
  try dsimp only
  repeat' first
    | with_reducible exact Lo.refl _
    | with_reducible refine Lo.bind ?_ (fun _ => ?_)
    | with_reducible refine Lo.ite ?_ ?_
    | with_reducible refine Lo.loop h (fun _ => ?_)
    | intro _
    | split
theorem aStep_lo {N M : Nat} (h : N ≤ M)  (d : ADfa) (state : Int) (c : Int) : Lo (aStep N d state c) (aStep M d state c) := by
  unfold aStep
  try dsimp only
  repeat' first
    | with_reducible exact Lo.refl _
    | with_reducible apply aStep_b1_lo h
    | with_reducible refine Lo.bind ?_ (fun _ => ?_)
    | with_reducible refine Lo.ite ?_ ?_
    | with_reducible refine Lo.loop h (fun _ => ?_)
    | intro _
    | split
theorem aFinal_lo {N M : Nat} (h : N ≤ M)  (d : ADfa) (state : Int) : Lo (aFinal N d state) (aFinal M d state) := by
  unfold aFinal
  try dsimp only
  repeat' first
    | with_reducible exact Lo.refl _
    | with_reducible refine Lo.bind ?_ (fun _ => ?_)
    | with_reducible refine Lo.ite ?_ ?_
    | with_reducible refine Lo.loop h (fun _ => ?_)
    | intro _
    | split
theorem aAccepts_b1_lo {N M : Nat} (h : N ≤ M)  (d : ADfa) (s : (List UInt8)) : ∀ ss0, Lo (aAccepts_b1 N d s ss0) (aAccepts_b1 M d s ss0) := by
  intro ss0
  unfold aAccepts_b1
  try dsimp only
  repeat' first
    | with_reducible exact Lo.refl _
    | with_reducible apply aStep_lo h
    | with_reducible refine Lo.bind ?_ (fun _ => ?_)
    | with_reducible refine Lo.ite ?_ ?_
    | with_reducible refine Lo.loop h (fun _ => ?_)
    | intro _
    | split
theorem aAccepts_lo {N M : Nat} (h : N ≤ M)  (d : ADfa) (s : (List UInt8)) : Lo (aAccepts N d s) (aAccepts M d s) := by
  unfold aAccepts
  try dsimp only
  repeat' first
    | with_reducible exact Lo.refl _
    | with_reducible apply aAccepts_b1_lo h
    | with_reducible apply aFinal_lo h
    | with_reducible refine Lo.bind ?_ (fun _ => ?_)
    | with_reducible refine Lo.ite ?_ ?_
    | with_reducible refine Lo.loop h (fun _ => ?_)
    | intro _
    | split
theorem indexEdge_b1_lo {N M : Nat} (h : N ≤ M) {f f' : (AEdge → Option Bool)} (hf : ∀ y0, Lo (f y0) (f' y0)) (s : (List AEdge)) : ∀ ss0, Lo (indexEdge_b1 N f s ss0) (indexEdge_b1 M f' s ss0) := by
  intro ss0
  unfold indexEdge_b1
  try dsimp only
  repeat' first
    | with_reducible exact Lo.refl _
    | exact hf
    | exact hf _
    | with_reducible refine Lo.bind ?_ (fun _ => ?_)
    | with_reducible refine Lo.ite ?_ ?_
    | with_reducible refine Lo.loop h (fun _ => ?_)
    | intro _
    | split
theorem indexEdge_lo {N M : Nat} (h : N ≤ M) {f f' : (AEdge → Option Bool)} (hf : ∀ y0, Lo (f y0) (f' y0)) (s : (List AEdge)) : Lo (indexEdge N s f) (indexEdge M s f') := by
  unfold indexEdge
  try dsimp only
  repeat' first
    | with_reducible exact Lo.refl _
    | exact hf
    | exact hf _
    | with_reducible apply indexEdge_b1_lo h
    | with_reducible refine Lo.bind ?_ (fun _ => ?_)
    | with_reducible refine Lo.ite ?_ ?_
    | with_reducible refine Lo.loop h (fun _ => ?_)
    | intro _
    | split
theorem containsEdge_lo {N M : Nat} (h : N ≤ M) {f f' : (AEdge → Option Bool)} (hf : ∀ y0, Lo (f y0) (f' y0)) (s : (List AEdge)) : Lo (containsEdge N s f) (containsEdge M s f') := by
  unfold containsEdge
  try dsimp only
  repeat' first
    | with_reducible exact Lo.refl _
    | exact hf
    | exact hf _
    | with_reducible apply indexEdge_lo h
    | with_reducible refine Lo.bind ?_ (fun _ => ?_)
    | with_reducible refine Lo.ite ?_ ?_
    | with_reducible refine Lo.loop h (fun _ => ?_)
    | intro _
    | split
theorem aShortest_b2_lo {N M : Nat} (h : N ≤ M)  (x2446 : AItem) (x2482 : (List AEdge)) : ∀ ss0, Lo (aShortest_b2 N x2446 x2482 ss0) (aShortest_b2 M x2446 x2482 ss0) := by
  intro ss0
  unfold aShortest_b2
  try dsimp only
  repeat' first
    | with_reducible exact Lo.refl _
    | with_reducible refine Lo.bind ?_ (fun _ => ?_)
    | with_reducible refine Lo.ite ?_ ?_
    | with_reducible refine Lo.loop h (fun _ => ?_)
    | intro _
    | split
theorem aShortest_b1_lo {N M : Nat} (h : N ≤ M)  (d : ADfa) : ∀ ss0, Lo (aShortest_b1 N d ss0) (aShortest_b1 M d ss0) := by
  intro ss0
  unfold aShortest_b1
  try dsimp only
  repeat' first
    | with_reducible exact Lo.refl _
    | with_reducible apply aShortest_b2_lo h
    | with_reducible refine Lo.bind ?_ (fun _ => ?_)
    | with_reducible refine Lo.ite ?_ ?_
    | with_reducible refine Lo.loop h (fun _ => ?_)
    | intro _
    | split
theorem aShortest_lo {N M : Nat} (h : N ≤ M)  (d : ADfa) : Lo (aShortest N d) (aShortest M d) := by
  unfold aShortest
  try dsimp only
  repeat' first
    | with_reducible exact Lo.refl _
    | with_reducible apply aShortest_b1_lo h
    | with_reducible refine Lo.bind ?_ (fun _ => ?_)
    | with_reducible refine Lo.ite ?_ ?_
    | with_reducible refine Lo.loop h (fun _ => ?_)
    | intro _
    | split
theorem cloneBool_lo {N M : Nat} (h : N ≤ M)  (s : (List Bool)) : Lo (cloneBool N s) (cloneBool M s) := by
  unfold cloneBool
  try dsimp only
  repeat' first
    | with_reducible exact Lo.refl _
    | with_reducible refine Lo.bind ?_ (fun _ => ?_)
    | with_reducible refine Lo.ite ?_ ?_
    | with_reducible refine Lo.loop h (fun _ => ?_)
    | intro _
    | split
theorem aUseful1_lo {N M : Nat} (h : N ≤ M)  (pa : AEdge) (ca : (List Bool)) : Lo (aUseful1 N pa ca) (aUseful1 M pa ca) := by
  unfold aUseful1
  try dsimp only
  repeat' first
    | with_reducible exact Lo.refl _
    | with_reducible refine Lo.bind ?_ (fun _ => ?_)
    | with_reducible refine Lo.ite ?_ ?_
    | with_reducible refine Lo.loop h (fun _ => ?_)
    | intro _
    | split
theorem aUseful_b2_lo {N M : Nat} (h : N ≤ M)  (x2478 : (List AEdge)) : ∀ ss0, Lo (aUseful_b2 N x2478 ss0) (aUseful_b2 M x2478 ss0) := by
  intro ss0
  unfold aUseful_b2
  try dsimp only
  repeat' first
    | with_reducible exact Lo.refl _
    | with_reducible refine Lo.bind ?_ (fun _ => ?_)
    | with_reducible refine Lo.ite ?_ ?_
    | with_reducible refine Lo.loop h (fun _ => ?_)
    | intro _
    | split
theorem aUseful_b1_lo {N M : Nat} (h : N ≤ M)  (d : ADfa) : ∀ ss0, Lo (aUseful_b1 N d ss0) (aUseful_b1 M d ss0) := by
  intro ss0
  unfold aUseful_b1
  try dsimp only
  repeat' first
    | with_reducible exact Lo.refl _
    | with_reducible apply aUseful_b2_lo h
    | with_reducible refine Lo.bind ?_ (fun _ => ?_)
    | with_reducible refine Lo.ite ?_ ?_
    | with_reducible refine Lo.loop h (fun _ => ?_)
    | intro _
    | split
theorem aUseful_b4_lo {N M : Nat} (h : N ≤ M)  (d : ADfa) : ∀ ss0, Lo (aUseful_b4 N d ss0) (aUseful_b4 M d ss0) := by
  intro ss0
  unfold aUseful_b4
  try dsimp only
  repeat' first
    | with_reducible exact Lo.refl _
    | with_reducible apply aUseful1_lo h
    | with_reducible apply containsEdge_lo h
    | with_reducible refine Lo.bind ?_ (fun _ => ?_)
    | with_reducible refine Lo.ite ?_ ?_
    | with_reducible refine Lo.loop h (fun _ => ?_)
    | intro _
    | split
theorem aUseful_b3_lo {N M : Nat} (h : N ≤ M)  (d : ADfa) : ∀ ss0, Lo (aUseful_b3 N d ss0) (aUseful_b3 M d ss0) := by
  intro ss0
  unfold aUseful_b3
  try dsimp only
  repeat' first
    | with_reducible exact Lo.refl _
    | with_reducible apply aUseful_b4_lo h
    | with_reducible refine Lo.bind ?_ (fun _ => ?_)
    | with_reducible refine Lo.ite ?_ ?_
    | with_reducible refine Lo.loop h (fun _ => ?_)
    | intro _
    | split
theorem aUseful_b5_lo {N M : Nat} (h : N ≤ M)  (d : ADfa) (live3806 : (List Bool)) : ∀ ss0, Lo (aUseful_b5 N d live3806 ss0) (aUseful_b5 M d live3806 ss0) := by
  intro ss0
  unfold aUseful_b5
  try dsimp only
  repeat' first
    | with_reducible exact Lo.refl _
    | with_reducible refine Lo.bind ?_ (fun _ => ?_)
    | with_reducible refine Lo.ite ?_ ?_
    | with_reducible refine Lo.loop h (fun _ => ?_)
    | intro _
    | split
theorem aUseful_lo {N M : Nat} (h : N ≤ M)  (d : ADfa) : Lo (aUseful N d) (aUseful M d) := by
  unfold aUseful
  try dsimp only
  repeat' first
    | with_reducible exact Lo.refl _
    | with_reducible apply aUseful_b1_lo h
    | with_reducible apply aUseful_b3_lo h
    | with_reducible apply aUseful_b5_lo h
    | with_reducible apply cloneBool_lo h
    | with_reducible refine Lo.bind ?_ (fun _ => ?_)
    | with_reducible refine Lo.ite ?_ ?_
    | with_reducible refine Lo.loop h (fun _ => ?_)
    | intro _
    | split
theorem aClass_lo {N M : Nat} (h : N ≤ M)  (classes : (List Int)) (state : Int) : Lo (aClass N classes state) (aClass M classes state) := by
  unfold aClass
  try dsimp only
  repeat' first
    | with_reducible exact Lo.refl _
    | with_reducible refine Lo.bind ?_ (fun _ => ?_)
    | with_reducible refine Lo.ite ?_ ?_
    | with_reducible refine Lo.loop h (fun _ => ?_)
    | intro _
    | split
theorem aRefined_b2_lo {N M : Nat} (h : N ≤ M)  (classes : (List Int)) (d : ADfa) (x471 : Int) : ∀ ss0, Lo (aRefined_b2 N classes d x471 ss0) (aRefined_b2 M classes d x471 ss0) := by
  intro ss0
  unfold aRefined_b2
  try dsimp only
  repeat' first
    | with_reducible exact Lo.refl _
    | with_reducible apply aClass_lo h
    | with_reducible apply aStep_lo h
    | with_reducible apply fmtI_lo h
    | with_reducible refine Lo.bind ?_ (fun _ => ?_)
    | with_reducible refine Lo.ite ?_ ?_
    | with_reducible refine Lo.loop h (fun _ => ?_)
    | intro _
    | split
theorem aRefined_b1_lo {N M : Nat} (h : N ≤ M)  (classes : (List Int)) (d : ADfa) : ∀ ss0, Lo (aRefined_b1 N classes d ss0) (aRefined_b1 M classes d ss0) := by
  intro ss0
  unfold aRefined_b1
  try dsimp only
  repeat' first
    | with_reducible exact Lo.refl _
    | with_reducible apply aRefined_b2_lo h
    | with_reducible apply fmtI_lo h
    | with_reducible refine Lo.bind ?_ (fun _ => ?_)
    | with_reducible refine Lo.ite ?_ ?_
    | with_reducible refine Lo.loop h (fun _ => ?_)
    | intro _
    | split
theorem aRefined_lo {N M : Nat} (h : N ≤ M)  (d : ADfa) (classes : (List Int)) : Lo (aRefined N d classes) (aRefined M d classes) := by
  unfold aRefined
  try dsimp only
  repeat' first
    | with_reducible exact Lo.refl _
    | with_reducible apply aRefined_b1_lo h
    | with_reducible refine Lo.bind ?_ (fun _ => ?_)
    | with_reducible refine Lo.ite ?_ ?_
    | with_reducible refine Lo.loop h (fun _ => ?_)
    | intro _
    | split
theorem aPartition_b1_lo {N M : Nat} (h : N ≤ M)  (d : ADfa) (useful : (List Bool)) (x2 : (List Int)) : ∀ ss0, Lo (aPartition_b1 N d useful x2 ss0) (aPartition_b1 M d useful x2 ss0) := by
  intro ss0
  unfold aPartition_b1
  try dsimp only
  repeat' first
    | with_reducible exact Lo.refl _
    | with_reducible refine Lo.bind ?_ (fun _ => ?_)
    | with_reducible refine Lo.ite ?_ ?_
    | with_reducible refine Lo.loop h (fun _ => ?_)
    | intro _
    | split
theorem aPartition_b2_lo {N M : Nat} (h : N ≤ M)  (d : ADfa) : ∀ ss0, Lo (aPartition_b2 N d ss0) (aPartition_b2 M d ss0) := by
  intro ss0
  unfold aPartition_b2
  try dsimp only
  repeat' first
    | with_reducible exact Lo.refl _
    | with_reducible apply aRefined_lo h
    | with_reducible refine Lo.bind ?_ (fun _ => ?_)
    | with_reducible refine Lo.ite ?_ ?_
    | with_reducible refine Lo.loop h (fun _ => ?_)
    | intro _
    | split
theorem aPartition_lo {N M : Nat} (h : N ≤ M)  (d : ADfa) (useful : (List Bool)) : Lo (aPartition N d useful) (aPartition M d useful) := by
  unfold aPartition
  try dsimp only
  repeat' first
    | with_reducible exact Lo.refl _
    | with_reducible apply aPartition_b1_lo h
    | with_reducible apply aPartition_b2_lo h
    | with_reducible refine Lo.bind ?_ (fun _ => ?_)
    | with_reducible refine Lo.ite ?_ ?_
    | with_reducible refine Lo.loop h (fun _ => ?_)
    | intro _
    | split
theorem aMinimize_b2_lo {N M : Nat} (h : N ≤ M)  (d : ADfa) (r72 : (List Int)) (edges2412 : (List (List AEdge))) (i2427 : Int) (x2470 : Int) : ∀ ss0, Lo (aMinimize_b2 N d r72 edges2412 i2427 x2470 ss0) (aMinimize_b2 M d r72 edges2412 i2427 x2470 ss0) := by
  intro ss0
  unfold aMinimize_b2
  try dsimp only
  repeat' first
    | with_reducible exact Lo.refl _
    | with_reducible apply aClass_lo h
    | with_reducible apply aStep_lo h
    | with_reducible refine Lo.bind ?_ (fun _ => ?_)
    | with_reducible refine Lo.ite ?_ ?_
    | with_reducible refine Lo.loop h (fun _ => ?_)
    | intro _
    | split
theorem aMinimize_b1_lo {N M : Nat} (h : N ≤ M)  (d : ADfa) (r72 : (List Int)) : ∀ ss0, Lo (aMinimize_b1 N d r72 ss0) (aMinimize_b1 M d r72 ss0) := by
  intro ss0
  unfold aMinimize_b1
  try dsimp only
  repeat' first
    | with_reducible exact Lo.refl _
    | with_reducible apply aMinimize_b2_lo h
    | with_reducible refine Lo.bind ?_ (fun _ => ?_)
    | with_reducible refine Lo.ite ?_ ?_
    | with_reducible refine Lo.loop h (fun _ => ?_)
    | intro _
    | split
theorem aMinimize_lo {N M : Nat} (h : N ≤ M)  (d : ADfa) : Lo (aMinimize N d) (aMinimize M d) := by
  unfold aMinimize
  try dsimp only
  repeat' first
    | with_reducible exact Lo.refl _
    | with_reducible apply aMinimize_b1_lo h
    | with_reducible apply aPartition_lo h
    | with_reducible apply aUseful_lo h
    | with_reducible refine Lo.bind ?_ (fun _ => ?_)
    | with_reducible refine Lo.ite ?_ ?_
    | with_reducible refine Lo.loop h (fun _ => ?_)
    | intro _
    | split
theorem aFind_b2_lo {N M : Nat} (h : N ≤ M) {self self' : AFinder → Int → (List Int) → Int → Option (List (List UInt8))} (hself : ∀ y0 y1 y2 y3, Lo (self y0 y1 y2 y3) (self' y0 y1 y2 y3)) (f : AFinder) (left : Int) (text : (List Int)) (x1634 : AEdge) : ∀ ss0, Lo (aFind_b2 N self f left text x1634 ss0) (aFind_b2 M self' f left text x1634 ss0) := by
  intro ss0
  unfold aFind_b2
  try dsimp only
  repeat' first
    | with_reducible exact Lo.refl _
    | exact hself
    | exact hself _ _ _ _
    | with_reducible refine Lo.bind ?_ (fun _ => ?_)
    | with_reducible refine Lo.ite ?_ ?_
    | with_reducible refine Lo.loop h (fun _ => ?_)
    | intro _
    | split
theorem aFind_b1_lo {N M : Nat} (h : N ≤ M) {self self' : AFinder → Int → (List Int) → Int → Option (List (List UInt8))} (hself : ∀ y0 y1 y2 y3, Lo (self y0 y1 y2 y3) (self' y0 y1 y2 y3)) (f : AFinder) (left : Int) (text : (List Int)) (x635 : (List AEdge)) : ∀ ss0, Lo (aFind_b1 N self f left text x635 ss0) (aFind_b1 M self' f left text x635 ss0) := by
  intro ss0
  unfold aFind_b1
  try dsimp only
  repeat' first
    | with_reducible exact Lo.refl _
    | exact hself
    | exact hself _ _ _ _
    | with_reducible apply aFind_b2_lo h
    | with_reducible refine Lo.bind ?_ (fun _ => ?_)
    | with_reducible refine Lo.ite ?_ ?_
    | with_reducible refine Lo.loop h (fun _ => ?_)
    | intro _
    | split
theorem aFind_step_lo {N M : Nat} (h : N ≤ M) {self self' : AFinder → Int → (List Int) → Int → Option (List (List UInt8))} (hself : ∀ y0 y1 y2 y3, Lo (self y0 y1 y2 y3) (self' y0 y1 y2 y3)) (f : AFinder) (state : Int) (text : (List Int)) (left : Int) : Lo (aFind_step N self f state text left) (aFind_step M self' f state text left) := by
  unfold aFind_step
  try dsimp only
  repeat' first
    | with_reducible exact Lo.refl _
    | exact hself
    | exact hself _ _ _ _
    | with_reducible apply aFind_b1_lo h
    | with_reducible refine Lo.bind ?_ (fun _ => ?_)
    | with_reducible refine Lo.ite ?_ ?_
    | with_reducible refine Lo.loop h (fun _ => ?_)
    | intro _
    | split
theorem aFind_lo : ∀ {N M : Nat} (_ : N ≤ M) a0 a1 a2 a3, Lo (aFind N a0 a1 a2 a3) (aFind M a0 a1 a2 a3)
  | 0, _, _ => fun _ _ _ _ => Lo.none
  | N + 1, 0, h => by omega
  | N + 1, M + 1, h => aFind_step_lo (by omega) (aFind_lo (by omega))
theorem aWords1_lo {N M : Nat} (h : N ≤ M)  (pa : AEdge) (ca : AFinder) (cb : Int) : Lo (aWords1 N pa ca cb) (aWords1 M pa ca cb) := by
  unfold aWords1
  try dsimp only
  repeat' first
    | with_reducible exact Lo.refl _
    | with_reducible refine Lo.bind ?_ (fun _ => ?_)
    | with_reducible refine Lo.ite ?_ ?_
    | with_reducible refine Lo.loop h (fun _ => ?_)
    | intro _
    | split
theorem aWords_b2_lo {N M : Nat} (h : N ≤ M)  (d : ADfa) (length : Int) (most : Int) (can663 : (List (List Bool))) (x667 : Int) (x702 : (List Bool)) : ∀ ss0, Lo (aWords_b2 N d length most can663 x667 x702 ss0) (aWords_b2 M d length most can663 x667 x702 ss0) := by
  intro ss0
  unfold aWords_b2
  try dsimp only
  repeat' first
    | with_reducible exact Lo.refl _
    | with_reducible apply aWords1_lo h
    | with_reducible apply containsEdge_lo h
    | with_reducible refine Lo.bind ?_ (fun _ => ?_)
    | with_reducible refine Lo.ite ?_ ?_
    | with_reducible refine Lo.loop h (fun _ => ?_)
    | intro _
    | split
theorem aWords_b1_lo {N M : Nat} (h : N ≤ M)  (d : ADfa) (length : Int) (most : Int) : ∀ ss0, Lo (aWords_b1 N d length most ss0) (aWords_b1 M d length most ss0) := by
  intro ss0
  unfold aWords_b1
  try dsimp only
  repeat' first
    | with_reducible exact Lo.refl _
    | with_reducible apply aWords_b2_lo h
    | with_reducible refine Lo.bind ?_ (fun _ => ?_)
    | with_reducible refine Lo.ite ?_ ?_
    | with_reducible refine Lo.loop h (fun _ => ?_)
    | intro _
    | split
theorem aWords_lo {N M : Nat} (h : N ≤ M)  (d : ADfa) (length : Int) (most : Int) : Lo (aWords N d length most) (aWords M d length most) := by
  unfold aWords
  try dsimp only
  repeat' first
    | with_reducible exact Lo.refl _
    | with_reducible apply aFind_lo h
    | with_reducible apply aWords_b1_lo h
    | with_reducible refine Lo.bind ?_ (fun _ => ?_)
    | with_reducible refine Lo.ite ?_ ?_
    | with_reducible refine Lo.loop h (fun _ => ?_)
    | intro _
    | split
end Go.D
