/-
  The law Classes. Plain theorems.
-/
import Derived.Test.YtaakoedphmeenaaK8
import Derived.Test.YtaakoedphmeenaaN1
set_option linter.unusedSimpArgs false
set_option linter.unusedVariables false
namespace Go.D
open Go Go.X
theorem lnumbers_self {a : List Int} (h : a.length ≤ Bg) : Tm (fun N => lnumbers N a a) (· = true) := by
  have hb : Bg = 9223372036854775807 := rfl
  unfold lnumbers
  refine Tm.neg (by simp) ?_
  refine (Tm.allL (b := fun N => lnumbers_b1 N a a) a (fun _ => true) (by omega) (fun k hk => ?_) ?_).eq ?_
  · unfold lnumbers_b1
    refine Tm.pos (by omega) (Tm.step (idx_n hk) (Tm.step (idx_n hk) (Tm.neg (by simp) (Tm.some rfl))))
  · unfold lnumbers_b1
    exact Tm.neg (by omega) (Tm.some rfl)
  · rw [List.all_eq_true.2 fun _ _ => rfl]
    exact Tm.some rfl
theorem lawClasses_tm {p : TProb} (h : Lim p) : Tm (fun N => lawClasses N p) (· = true) := by
  unfold lawClasses
  refine (awake_if (c := !small p) ((rSmall_tm h).bind fun r hr => Tm.some (by rw [hr]))).eq ?_
  cases hs : small p with
  | false => exact awake_end rfl
  | true =>
    obtain ⟨ho, hm, _⟩ := small_ok hs
    have hsl := hm.d
    simp only [Bool.not_true, Bool.false_eq_true, if_false]
    refine (lof_tm hm).eq ((tClasses_tm ho hsl).bind fun r hr => ?_)
    obtain ⟨L, hL, hF, rfl⟩ := hr
    refine (rClasses_tm hL hF ho hsl).eq ?_
    have hle := ho.le
    have hll := hL.len
    have hlen : (classesOf L).length ≤ 128 := by
      unfold classesOf
      rw [List.length_map, List.length_range]
      have := rk_le' (L := L); omega
    refine Tm.neg (by simp) ?_
    refine (Tm.allL (b := fun N => lawClasses_b1 N (classesOf L) (classesOf L)) (classesOf L) (fun _ => true) (by omega) (fun k hk => ?_) ?_).eq ?_
    · unfold lawClasses_b1
      refine Tm.pos (by omega) (Tm.step (idx_n hk) (Tm.step (idx_n hk) ((lnumbers_self ?_).eq (Tm.some rfl))))
      have : (classesOf L)[k] = memb L k := by simp [classesOf]
      rw [this]
      have := fl_len (P := fun v => decide (cls L v = k)) (n := L.length)
      unfold memb Bg; omega
    · unfold lawClasses_b1
      exact Tm.neg (by omega) (Tm.some rfl)
    · rw [List.all_eq_true.2 fun _ _ => rfl]
      exact Tm.some rfl
end Go.D
