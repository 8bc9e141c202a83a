/-
 The laws Valid and Satisfies. Plain theorems.
-/
import Derived.Test.YtaakoedphmeenaaK4
import Derived.Test.YtaakoedphmeenaaA22
set_option linter.unusedSimpArgs false
set_option linter.unusedVariables false
namespace Go.D
open Go Go.X
theorem awake_if {g : Nat → Option Bool} {c : Bool} (h : Tm g (· = c)) : Tm (fun N => (awake N).bind fun r => if (!r) = true then some true else g N) (· = c) :=
 awake_tm.bind fun r hr => by subst hr; exact Tm.neg (by simp) h
theorem awake_end {Q : Bool → Prop} (h : Q true) : Tm (fun N => (awake N).bind fun r => some r) Q :=
 awake_tm.bind fun r hr => by subst hr; exact Tm.some h
end Go.D
