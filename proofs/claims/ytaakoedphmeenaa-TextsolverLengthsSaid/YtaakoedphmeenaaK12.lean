/-
 Solve: the order in which words are chosen; what a solution is by classes. Plain theorems.
-/
import Derived.Test.YtaakoedphmeenaaK11
set_option linter.unusedSimpArgs false
set_option linter.unusedVariables false
namespace Go.D
open Go Go.X
theorem pick {α : Type} {W B : List α} (h : W.Nodup) (hl : B.length < W.length) : ∃ w ∈ W, w ∉ B := by
 apply Classical.byContradiction
 intro hno
 have : W ⊆ B := fun w hw => Classical.byContradiction fun hb => hno ⟨w, hw, hb⟩
 have := h.length_le_of_subset this
 omega
section
variable {p : TProb} {L : List Int} {l : List TClass} {x : List (List UInt8)}
structure Wds (p : TProb) (L : List Int) (l : List TClass) (f : Nat → List UInt8) : Prop where
 mem : ∀ (k : Nat) (c : TClass), l[k]? = some c → f k ∈ allw c
 df : ∀ e ∈ p.Different, f (cls L e.e0.toNat) ≠ f (cls L e.e1.toNat)
end
end Go.D
