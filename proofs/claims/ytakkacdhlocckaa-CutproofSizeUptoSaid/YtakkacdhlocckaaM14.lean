/-
  Deriving an inequality by the reference, and the law of Apply. Plain theorems.
-/
import Derived.Test.YtakkacdhlocckaaM13
import Derived.Test.YtakkacdhlocckaaM6a
namespace Go.D
open Go Go.X
def InS (s : Step) : Prop := s.Uses.length ≤ 9223372036854775807 ∧ (∀ u ∈ s.Uses, In32 u.N) ∧ In32 s.Divisor
theorem rSmallStep_tm {s : Step} (hs : InS s) : Tm (fun N => rSmallStep N s) (fun r => r = true → OkS s) := by
  unfold rSmallStep
  refine Tm.bind (Tm.each (body := fun N => rSmallStep_b1 N s) s.Uses (fun u => u.N.Digits.length ≤ 4) (Q := fun r => r = .inr false ∨ (r = .inl () ∧ ∀ u ∈ s.Uses, u.N.Digits.length ≤ 4)) hs.1 ?_ ?_) ?_
  · intro n hn _
    dsimp only [rSmallStep_b1]
    refine Tm.pos (by omega) (Tm.step (idx_ok hn) (Tm.ite (fun h => Tm.pure (.inr ⟨_, rfl, .inl rfl⟩)) (fun h => Tm.pure (.inl ⟨rfl, by omega⟩))))
  · intro h
    dsimp only [rSmallStep_b1]
    exact Tm.neg (by omega) (Tm.pure ⟨_, rfl, .inr ⟨rfl, h⟩⟩)
  · rintro _ (rfl | ⟨rfl, h⟩)
    · exact Tm.pure (fun h => by cases h)
    · refine Tm.ite (fun h1 => Tm.pure (fun h2 => ?_)) (fun h1 => Tm.pure (fun h2 => by cases h2))
      have := of_decide_eq_true h2
      exact ⟨by omega, fun u hu => ⟨hs.2.1 u hu, h u hu⟩, hs.2.2, by omega⟩
end Go.D
