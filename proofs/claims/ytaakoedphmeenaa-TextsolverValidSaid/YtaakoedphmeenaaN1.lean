/-
 The laws Valid and Satisfies. Plain theorems.
-/
import Derived.Test.YtaakoedphmeenaaK4
import Derived.Test.YtaakoedphmeenaaA22
set_option linter.unusedSimpArgs false
set_option linter.unusedVariables false
namespace Go.D
open Go Go.X
theorem awake_if {g : Nat → Option Bool} {c : Bool} (h : Tm g (· = c)) : Tm (fun N => (awake N).bind fun r => if (!r) = true then some true else g N) (· = c) :=
 awake_tm.bind fun r hr => by subst hr; exact Tm.neg (by simp) h
theorem awake_end {Q : Bool → Prop} (h : Q true) : Tm (fun N => (awake N).bind fun r => some r) Q :=
 awake_tm.bind fun r hr => by subst hr; exact Tm.some h
def Lw (p : TProb) : Prop := p.Min.length ≤ 17592186043904 ∧ p.Max.length ≤ 17592186043904 ∧ p.Tests.length ≤ 17592186043904 ∧ p.Same.length ≤ 17592186043904 ∧ p.Different.length ≤ 17592186043904
theorem lawValid_tm {p : TProb} (h : Lim p) (hw : Lw p) : Tm (fun N => lawValid N p) (· = true) := by
 unfold lawValid
 obtain ⟨h1, h2, h3, h4, h5⟩ := hw
 have e1 : iw ((p.Min.length : Int) + (p.Max.length : Int)) = ((p.Min.length + p.Max.length : Nat) : Int) := by rw [iw_eq] <;> omega
 have e2 : iw (((p.Min.length + p.Max.length : Nat) : Int) + (p.Tests.length : Int)) = ((p.Min.length + p.Max.length + p.Tests.length : Nat) : Int) := by rw [iw_eq] <;> omega
 have e3 : iw (((p.Min.length + p.Max.length + p.Tests.length : Nat) : Int) + (p.Same.length : Int)) = ((p.Min.length + p.Max.length + p.Tests.length + p.Same.length : Nat) : Int) := by rw [iw_eq] <;> omega
 have e4 : iw (((p.Min.length + p.Max.length + p.Tests.length + p.Same.length : Nat) : Int) + (p.Different.length : Int)) = ((p.Min.length + p.Max.length + p.Tests.length + p.Same.length + p.Different.length : Nat) : Int) := by rw [iw_eq] <;> omega
 rw [e1, e2, e3, e4]
 refine (awake_if (c := decide (((p.Min.length + p.Max.length + p.Tests.length + p.Same.length + p.Different.length : Nat) : Int) > 200)) (Tm.some rfl)).eq ?_
 by_cases hz : ((p.Min.length + p.Max.length + p.Tests.length + p.Same.length + p.Different.length : Nat) : Int) > 200
 · rw [decide_eq_true hz]
   exact awake_end rfl
 · rw [decide_eq_false hz]
   simp only [Bool.false_eq_true, if_false]
   refine (lof_tm ⟨by omega, by omega, by omega, by omega, by omega⟩).eq ?_
   refine (tValid_tm h).eq ((rValid_tm h).eq (Tm.some ?_))
   cases okP p <;> rfl
end Go.D
