/-
  Deriving an inequality, by both programs. Plain theorems.
-/
import Derived.Test.YtakkacdhlocckaaM12
import Derived.Test.YtakkacdhlocckaaM4
import Derived.Test.YtakkacdhlocckaaM5
namespace Go.D
open Go Go.X
abbrev ineq0 : Ineq := ⟨[], ⟨false, []⟩⟩
theorem getDq_mem {l : List Ineq} {n : Nat} (h : n < l.length) : l.getD n ineq0 ∈ l := by
  rw [List.getD_eq_getElem?_getD, List.getElem?_eq_getElem h]; exact List.getElem_mem h
def nV (l : List Ineq) : Nat := (l.getD 0 ineq0).Coefs.length
def evenV (l : List Ineq) : Prop := ∀ q ∈ l, q.Coefs.length = nV l
instance (l : List Ineq) : Decidable (evenV l) := inferInstanceAs (Decidable (∀ q ∈ l, q.Coefs.length = nV l))
def badU (l : List Ineq) (u : Use) : Prop := u.Index < 0 ∨ (l.length : Int) ≤ u.Index ∨ bv u.N < 0
instance (l : List Ineq) (u : Use) : Decidable (badU l u) := inferInstanceAs (Decidable (_ ∨ _ ∨ _))
structure OkS (s : Step) : Prop where
  len : s.Uses.length ≤ 12
  use : ∀ u ∈ s.Uses, OkB 4 u.N
  div : OkB 4 s.Divisor
theorem evenV.get {l : List Ineq} (h : evenV l) {n : Nat} (hn : n < l.length) : (l.getD n ineq0).Coefs.length = nV l := h _ (getDq_mem hn)
end Go.D
