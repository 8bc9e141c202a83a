/-
 The laws Solve and Lengths. Plain theorems.
-/
import Derived.Test.YtaakoedphmeenaaK15
import Derived.Test.YtaakoedphmeenaaN2
set_option linter.unusedSimpArgs false
set_option linter.unusedVariables false
namespace Go.D
open Go Go.X
def short (p : TProb) : Bool := p.Max.all (fun k => decide (k ≤ 2)) && small p && decide (p.Max.length ≤ 3)
theorem rShort_tm {p : TProb} (h : Lim p) : Tm (fun N => rShort N p) (· = short p) := by
 have hb : Bg = 9223372036854775807 := rfl
 have hmb := h.b
 unfold rShort
 refine (Tm.allL (b := fun N => rShort_b1 N p) p.Max (fun k => decide (k ≤ 2)) (by omega) (fun k hk => ?_) ?_).eq ?_
 · unfold rShort_b1
   refine Tm.pos (by omega) (Tm.step (idx_n hk) ?_)
   by_cases e : p.Max[k] > 2
   · rw [decide_eq_false (by omega)]; exact Tm.pos e (Tm.some rfl)
   · rw [decide_eq_true (by omega)]; exact Tm.neg e (Tm.some rfl)
 · unfold rShort_b1
   exact Tm.neg (by omega) (Tm.some rfl)
 · unfold short
   cases p.Max.all fun k => decide (k ≤ 2) with
   | false => exact Tm.some rfl
   | true =>
    refine Tm.bind (rSmall_tm h) fun r hr => ?_
    subst hr
    cases small p with
    | false => exact Tm.neg (by simp) (Tm.some rfl)
    | true => exact Tm.pos rfl (Tm.some (by simp only [Bool.true_and]; exact decide_eq_decide.2 (by omega)))
theorem short_ok {p : TProb} (h : short p = true) : small p = true ∧ ∀ k ∈ p.Max, k ≤ 2 := by
 unfold short at h
 rw [Bool.and_eq_true, Bool.and_eq_true, List.all_eq_true] at h
 exact ⟨h.1.2, fun k hk => of_decide_eq_true (h.1.1 k hk)⟩
theorem lawSolve_tm {p : TProb} (h : Lim p) : Tm (fun N => lawSolve N p) (· = true) := by
 unfold lawSolve
 refine (awake_if (c := !short p) ((rShort_tm h).bind fun r hr => Tm.some (by rw [hr]))).eq ?_
 cases hs : short p with
 | false => exact awake_end rfl
 | true =>
  obtain ⟨hsm, h2⟩ := short_ok hs
  obtain ⟨ho, hm, h3, h4, h5, h6⟩ := small_ok hsm
  simp only [Bool.not_true, Bool.false_eq_true, if_false]
  refine (lof_tm hm).eq ((tSolve_tm ho hm (by omega) (by omega)).bind fun r hr => ((rSolvable_tm ho h hm h2).bind fun b hb => Tm.some ?_))
  have : r.2 = b := by
   rw [Bool.eq_iff_iff, hb]
   constructor
   · intro e; exact ⟨_, hr.1 e⟩
   · rintro ⟨x, hx⟩
     cases e : r.2 with
     | true => rfl
     | false => have := (hr.2 e).2 x; rw [hx] at this; simp at this
  rw [this]; simp
end Go.D
