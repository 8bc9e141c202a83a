/-
  The laws Valid and Satisfies. Plain theorems.
-/
import Derived.Test.YtaakoedphmeenaaK4
import Derived.Test.YtaakoedphmeenaaA22
set_option linter.unusedSimpArgs false
set_option linter.unusedVariables false
namespace Go.D
open Go Go.X
theorem awake_if {g : Nat → Option Bool} {c : Bool} (h : Tm g (· = c)) : Tm (fun N => (awake N).bind fun r => if (!r) = true then some true else g N) (· = c) :=
  awake_tm.bind fun r hr => by subst hr; exact Tm.neg (by simp) h
theorem awake_end {Q : Bool → Prop} (h : Q true) : Tm (fun N => (awake N).bind fun r => some r) Q :=
  awake_tm.bind fun r hr => by subst hr; exact Tm.some h
theorem lawSatisfies_tm {p : TProb} {x : List (List UInt8)} (h : Lim p) (hx : Lx x) : Tm (fun N => lawSatisfies N p x) (· = true) := by
  have hb : Bg = 9223372036854775807 := rfl
  unfold lawSatisfies
  refine (awake_if (c := !small p || decide ((x.length : Int) > 10)) ?_).eq ?_
  · refine (rSmall_tm h).eq ?_
    cases small p <;> exact Tm.some rfl
  · cases hs : small p with
    | false => exact awake_end rfl
    | true =>
      by_cases hl : (x.length : Int) > 10
      · rw [decide_eq_true hl]; exact awake_end rfl
      · rw [decide_eq_false hl]
        simp only [Bool.not_true, Bool.or_false, Bool.false_eq_true, if_false]
        obtain ⟨ho, hm, _⟩ := small_ok hs
        refine (lof_tm hm).eq ?_
        rw [apnd_ok (by simp; omega) (by decide)]
        simp only [Option.bind_some, List.nil_append]
        refine (tSatisfies_tm ho h hx).eq ((rSatisfies_tm ho h hx).eq (Tm.some ?_))
        cases sat p x <;> rfl
end Go.D
