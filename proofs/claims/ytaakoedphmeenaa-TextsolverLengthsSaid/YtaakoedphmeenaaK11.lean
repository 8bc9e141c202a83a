/-
 The choice of words: a complete search. Plain theorems.
-/
import Derived.Test.YtaakoedphmeenaaK10
set_option linter.unusedSimpArgs false
set_option linter.unusedVariables false
namespace Go.D
open Go Go.X
structure Adj (l : List TClass) : Prop where
 lt : ∀ (k : Nat) (c : TClass), l[k]? = some c → ∀ o ∈ c.apart, ∃ q : Nat, o = (q : Int) ∧ q < l.length ∧ q ≠ k
 symm : ∀ (k : Nat) c (q : Nat) d, l[k]? = some c → l[q]? = some d → (q : Int) ∈ c.apart → (k : Int) ∈ d.apart
def nI (ns : List Nat) : List Int := ns.map fun (n : Nat) => (n : Int)
def Ext (l : List TClass) (ns : List Nat) (words : List (List UInt8)) (known : List Bool) (g : Nat → List UInt8) : Prop :=
 ∀ k ∈ ns, ∃ c, l[k]? = some c ∧ g k ∈ c.words ∧ ∀ q : Nat, (q : Int) ∈ c.apart → (q ∈ ns → g k ≠ g q) ∧ (known[q]? = some true → words[q]? ≠ some (g k))
structure Chosen (l : List TClass) (ns : List Nat) (words : List (List UInt8)) (known : List Bool) (r : Bool × Bool × List (List UInt8) × List Bool) : Prop where
 len : r.2.2.1.length = l.length
 out : ∀ o, o ∉ ns → r.2.2.1[o]? = words[o]?
 yes : r.2.1 = true → r.1 = true ∧ ∀ k ∈ ns, ∃ c w, l[k]? = some c ∧ r.2.2.1[k]? = some w ∧ w ∈ c.words ∧ ∀ q : Nat, (q : Int) ∈ c.apart → (q ∈ ns ∨ known[q]? = some true) → r.2.2.1[q]? ≠ some w
 no : r.2.1 = false → r.2.2.2 = known ∧ ∀ g, ¬ Ext l ns words known g
end Go.D
