/-
  Constraints as inequalities: what both programs lay out. Plain theorems.
-/
import Derived.Test.YtakkacdhlocckaaM4
namespace Go.D
open Go Go.X
theorem is0 : Is big0 0 := ⟨Dg.nil, rfl⟩
theorem Is.len {x : Big} {v : Int} (h : Is x v) {k : Nat} (hv : (v.natAbs : Int) < W32 ^ k) : x.Digits.length ≤ k := nrm_len w32_pos h.dg.inB h.dg.nrm (by rw [h.dg.val]; exact hv)
def I64 (z : Int) : Prop := -9223372036854775808 ≤ z ∧ z ≤ 9223372036854775807
structure OkC (c : Constraint) : Prop where
  len : c.Linear.Coefs.length ≤ 9223372036854775807
  const : I64 c.Linear.Const
  coef : ∀ k ∈ c.Linear.Coefs, I64 k.N
end Go.D
