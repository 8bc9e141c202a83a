/-
 The laws Solve and Lengths. Plain theorems.
-/
import Derived.Test.YtaakoedphmeenaaK15
import Derived.Test.YtaakoedphmeenaaN2
set_option linter.unusedSimpArgs false
set_option linter.unusedVariables false
namespace Go.D
open Go Go.X
def short (p : TProb) : Bool := p.Max.all (fun k => decide (k ≤ 2)) && small p && decide (p.Max.length ≤ 3)
theorem rShort_tm {p : TProb} (h : Lim p) : Tm (fun N => rShort N p) (· = short p) := by
 have hb : Bg = 9223372036854775807 := rfl
 have hmb := h.b
 unfold rShort
 refine (Tm.allL (b := fun N => rShort_b1 N p) p.Max (fun k => decide (k ≤ 2)) (by omega) (fun k hk => ?_) ?_).eq ?_
 · unfold rShort_b1
   refine Tm.pos (by omega) (Tm.step (idx_n hk) ?_)
   by_cases e : p.Max[k] > 2
   · rw [decide_eq_false (by omega)]; exact Tm.pos e (Tm.some rfl)
   · rw [decide_eq_true (by omega)]; exact Tm.neg e (Tm.some rfl)
 · unfold rShort_b1
   exact Tm.neg (by omega) (Tm.some rfl)
 · unfold short
   cases p.Max.all fun k => decide (k ≤ 2) with
   | false => exact Tm.some rfl
   | true =>
    refine Tm.bind (rSmall_tm h) fun r hr => ?_
    subst hr
    cases small p with
    | false => exact Tm.neg (by simp) (Tm.some rfl)
    | true => exact Tm.pos rfl (Tm.some (by simp only [Bool.true_and]; exact decide_eq_decide.2 (by omega)))
theorem short_ok {p : TProb} (h : short p = true) : small p = true ∧ ∀ k ∈ p.Max, k ≤ 2 := by
 unfold short at h
 rw [Bool.and_eq_true, Bool.and_eq_true, List.all_eq_true] at h
 exact ⟨h.1.2, fun k hk => of_decide_eq_true (h.1.1 k hk)⟩
theorem lawLengths_tm {p : TProb} {v : Int} (h : Lim p) : Tm (fun N => lawLengths N p v) (· = true) := by
 have hb : Bg = 9223372036854775807 := rfl
 unfold lawLengths
 refine (awake_if (c := !short p) ((rShort_tm h).bind fun r hr => Tm.some (by rw [hr]))).eq ?_
 cases hs : short p with
 | false => exact awake_end rfl
 | true =>
  obtain ⟨hsm, h2⟩ := short_ok hs
  obtain ⟨ho, hm, h3, h4, h5, h6⟩ := small_ok hsm
  simp only [Bool.not_true, Bool.false_eq_true, if_false]
  refine (lof_tm hm).eq ?_
  by_cases hv : v < 0 ∨ v ≥ p.Min.length
  · obtain ⟨L, hL, hF⟩ := lab_ex ho hm.d
    exact (tLengths_out hv).eq ((rLengths_out ho hm hL hF hv).eq ((lnumbers_self (by simp)).eq (Tm.some rfl)))
  · obtain ⟨k, rfl⟩ : ∃ k : Nat, v = (k : Int) := ⟨v.toNat, by omega⟩
    refine (tLengths_tm ho hm (v := k) (by omega)).bind fun ls hls => ?_
    obtain ⟨L, l, c, hL, hF, hG, ec, rfl⟩ := hls
    refine (rLengths_tm ho hm hL hF (v := k) (by omega)).eq ?_
    rw [lens_eq ho hm hL hF hG h2 ec]
    have := rl_len (W := Wk p L (cls L k)) (n := 3)
    exact (lnumbers_self (by omega)).eq (Tm.some rfl)
end Go.D
