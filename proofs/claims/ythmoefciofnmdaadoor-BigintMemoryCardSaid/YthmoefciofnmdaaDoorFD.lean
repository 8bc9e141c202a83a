/- Plain counterparts of the library functions that chapter 02 calls. -/
import Derived.Lib.Repeat
import Derived.Lib.Join
import Derived.Lib.Strings
import Derived.Lib.ItoaNum
set_option linter.unusedSimpArgs false
set_option linter.unusedVariables false
namespace Go.D
def formatUint (N : Nat) (i b : Int) : Option (List UInt8) := if 0 ≤ i ∧ i < 18446744073709551616 ∧ b = 10 then some (Go.Lib.decDigits i.toNat) else none
def repeatStr (N : Nat) (s : List UInt8) (c : Int) : Option (List UInt8) := if 0 ≤ c ∧ c ≤ 9223372036854775807 ∧ (s.length : Int) * c ≤ 140737488355328 then some (Go.Lib.repeatL s c.toNat) else none
def joinStr (N : Nat) (xs : List (List UInt8)) (s : List UInt8) : Option (List UInt8) := if xs.length ≤ 140737488355328 ∧ (Go.Lib.join xs s).length ≤ 140737488355328 then some (Go.Lib.join xs s) else none
def trimPre (N : Nat) (s p : List UInt8) : Option (List UInt8) := some (Go.Lib.trimPrefix s p)
def revStr (xs : List (List UInt8)) : Option (List (List UInt8)) := if xs.length ≤ 9223372036854775807 then some xs.reverse else none
theorem revStr_some {xs Y : List (List UInt8)} (h : revStr xs = some Y) : xs.length ≤ 9223372036854775807 ∧ Y = xs.reverse := by
  unfold revStr at h; split at h
  · exact ⟨by assumption, (Option.some.inj h).symm⟩
  · cases h
end Go.D
