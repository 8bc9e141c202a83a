/-
 The laws Solution, Complete and Monotone. Plain theorems.
-/
import Derived.Test.YtaakoedphmeenaaK13
import Derived.Test.YtaakoedphmeenaaN1
set_option linter.unusedSimpArgs false
set_option linter.unusedVariables false
namespace Go.D
open Go Go.X
theorem lx_of_sat {p : TProb} {x : List (List UInt8)} (hp : OkP p) (h : sat p x = true) : Lx x := by
 obtain ⟨h1, h2, _⟩ := sat_iff.1 h
 have hle := hp.le
 have hb : Bg = 9223372036854775807 := rfl
 refine ⟨by omega, fun s hs => ?_⟩
 obtain ⟨i, hi, rfl⟩ := List.getElem_of_mem hs
 have h3 := (h2 i hi).1.2
 rw [getD_n hi, getD_n (by rw [hp.len]; omega)] at h3
 have := hp.mx _ (List.getElem_mem (show i < p.Max.length by rw [hp.len]; omega))
 omega
theorem lawSolution_tm {p : TProb} (h : Lim p) : Tm (fun N => lawSolution N p) (· = true) := by
 unfold lawSolution
 refine (awake_if (c := !small p) ((rSmall_tm h).bind fun r hr => Tm.some (by rw [hr]))).eq ?_
 cases hs : small p with
 | false => exact awake_end rfl
 | true =>
  obtain ⟨ho, hm, h1, h2, h3, h4⟩ := small_ok hs
  simp only [Bool.not_true, Bool.false_eq_true, if_false]
  refine (lof_tm hm).eq ((tSolve_tm ho hm (by omega) (by omega)).bind fun r hr => ?_)
  obtain ⟨x, ok⟩ := r
  cases ok with
  | false =>
   obtain ⟨e, _⟩ := hr.2 rfl
   dsimp only at e
   subst e
   exact Tm.pos rfl (Tm.some rfl)
  | true =>
   have hsat : sat p x = true := hr.1 rfl
   have hx := lx_of_sat ho hsat
   refine Tm.neg (by simp) ((rSatisfies_tm ho h hx).eq ?_)
   rw [hsat]
   refine Tm.pos rfl ((lof_tm hm).eq ((tSatisfies_tm ho h hx).eq (Tm.some hsat)))
end Go.D
