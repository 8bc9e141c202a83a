/-
 Tests of texts: the reference's states are the program's, spelled out; texts pass alike. Plain theorems.
-/
import Derived.Test.YtaakoedphmeenaaK2
set_option linter.unusedSimpArgs false
set_option linter.unusedVariables false
namespace Go.D
open Go Go.X
def sI (S : Nat → Bool) (n : Nat) : List Int := (List.range (n + 1)).map fun i => if S i then (1 : Int) else 0
def enc (t : TTest) (s : Int) : List UInt8 := if t.Kind = 1 then bstr (sI s.toNat.testBit t.Text.length) else if s = 100 then [60] else if s = 101 then [62] else [61, UInt8.ofNat s.toNat]
end Go.D
