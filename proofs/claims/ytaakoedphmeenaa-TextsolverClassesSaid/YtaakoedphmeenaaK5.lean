/-
  The search for texts: keys, states of all tests, what is found. Plain theorems.
-/
import Derived.Test.YtaakoedphmeenaaK4
set_option linter.unusedSimpArgs false
set_option linter.unusedVariables false
namespace Go.D
open Go Go.X
def allI : Nat → List (List Int)
  | 0 => [[]]
  | n + 1 => (List.range 95).flatMap fun (c : Nat) => (allI n).map fun x => ((c : Int) + 32) :: x
def acc (ts : List TTest) (l : List Int) (x : List Int) : Bool := (ts.zip l).all fun q => spF q.1 (run q.1 q.2 x)
def Rr (ts : List TTest) (l : List Int) (n : Nat) (text : List Int) : List (List UInt8) := ((allI n).filter (acc ts l)).map fun x => bstr (text ++ x)
structure Sts (ts : List TTest) (l : List Int) : Prop where
  len : l.length = ts.length
  ok : ∀ q ∈ ts.zip l, StOk q.1 q.2
end Go.D
