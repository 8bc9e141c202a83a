/-
  The law on what holds. Plain theorems.
-/
import Derived.Test.YtakkacdhlocckaaM4
import Derived.Test.YtakkacdhlocckaaOL
namespace Go.D
open Go Go.X
theorem awake_at : awake 50 = some true := by decide +kernel
theorem awake_tm : Tm (fun N => awake N) (fun r => r = true) := Lo.tm (f := fun N => awake N) (fun h => awake_lo h) awake_at
def In32 (x : Big) : Prop := InB W32 x.Digits
def InI (q : Ineq) : Prop := q.Coefs.length ≤ 9223372036854775807 ∧ (∀ b ∈ q.Coefs, In32 b) ∧ In32 q.Bound
theorem SmallI.ok {q : Ineq} (h : SmallI q) (hi : InI q) : OkI 6 q := ⟨h.1, fun b hb => ⟨hi.2.1 b hb, by have := h.2.1 b hb; omega⟩, hi.2.2, by have := h.2.2; omega⟩
end Go.D
