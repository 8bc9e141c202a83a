/-
  Checking a proof, by both programs; a proof that is accepted is right. Plain theorems.
-/
import Derived.Test.YtakkacdhlocckaaM14
namespace Go.D
open Go Go.X
def cf (q : Ineq) (j : Nat) : Int := bv (q.Coefs.getD j big0)
def Sm : Nat → Proof → Prop
  | 0, _ => False
  | n + 1, p => p.Steps.length ≤ n ∧ (∀ s ∈ p.Steps, OkS s) ∧ p.Form.length ≤ 6 ∧ (∀ b ∈ p.Form, OkB 4 b) ∧ OkB 4 p.Bound ∧ (∀ c ∈ p.Children, Sm n c) ∧ ∀ c ∈ p.Children, c.Children.length ≤ 9223372036854775807
end Go.D
