/-
  A loop walked round by round. Plain theorems over any program.
-/
import Derived.Test.YthmoefciofnmdaaDoorZ12
set_option linter.unusedSimpArgs false
set_option linter.unusedVariables false
namespace Go.X
open Go Go.RowKit
section
variable {P : Program} {n : Nat} {k : List It} {Q : Env → World → Prop} {e : Env} {w : World}
def RndE (P : Program) (n : Nat) (c : Code) (k : List It) (Q : Env → World → Prop) : Nat → Env → World → Prop
  | 0, _, _ => False
  | m + 1, e, w => Swp P n (.code c :: .back (RndE P n c k Q m) :: k) Q e w
theorem Swp.rnd {c : Code} {m : Nat} (h : Swp P n (.code c :: .back (RndE P n c k Q m) :: k) Q e w) : RndE P n c k Q (m + 1) e w := h
theorem Swp.unroll {c : Code} (m : Nat) (h : RndE P n c k Q m e w) : Swp P n (.code (.loop c) :: k) Q e w := by
  intro a h1 h2 h3
  refine wp_loop_ghost (I := fun (m : Nat) a w => a.tmps.size = n ∧ a.defers = [] ∧ RndE P n c k Q m (envOf a) w) (fun m => m) (s0 := m) ⟨h1, h2, h3 ▸ h⟩ ?_
  rintro m a w ⟨g1, g2, g3⟩
  cases m with
  | zero => exact g3.elim
  | succ m =>
    refine wp_mono (g3 a g1 g2 rfl) ?_
    rintro x a' w' ⟨r1, r2, r3⟩
    cases x with
    | normal => exact ⟨m, ⟨r1, r2, r3⟩, Nat.lt_succ_self m⟩
    | _ => exact ⟨r1, r2, r3⟩
end
end Go.X
