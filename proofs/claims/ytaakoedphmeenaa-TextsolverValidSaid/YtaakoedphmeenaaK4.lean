/-
 Systems of conditions on texts: solutions; copies; what is small. Plain theorems.
-/
import Derived.Test.YtaakoedphmeenaaK3
set_option linter.unusedSimpArgs false
set_option linter.unusedVariables false
namespace Go.D
open Go Go.X
structure OkP (p : TProb) : Prop where
 len : p.Max.length = p.Min.length
 le : p.Min.length ≤ 128
 mn : ∀ k ∈ p.Min, 0 ≤ k ∧ k ≤ 16
 mx : ∀ k ∈ p.Max, 0 ≤ k ∧ k ≤ 16
 ts : ∀ t ∈ p.Tests, okT t = true ∧ 0 ≤ t.Var ∧ t.Var < p.Min.length
 sm : ∀ e ∈ p.Same, (0 ≤ e.e0 ∧ e.e0 < p.Min.length) ∧ 0 ≤ e.e1 ∧ e.e1 < p.Min.length
 df : ∀ e ∈ p.Different, (0 ≤ e.e0 ∧ e.e0 < p.Min.length) ∧ 0 ≤ e.e1 ∧ e.e1 < p.Min.length
section
variable {p : TProb} {x : List (List UInt8)}
structure Lx (x : List (List UInt8)) : Prop where
 a : x.length ≤ Bg
 b : ∀ s ∈ x, s.length ≤ Bg
structure Lms (p : TProb) : Prop where
 a : p.Min.length ≤ 1000
 b : p.Max.length ≤ 1000
 c : p.Tests.length ≤ 1000
 d : p.Same.length ≤ 1000
 e : p.Different.length ≤ 1000
theorem lof_tm (h : Lms p) : Tm (fun N => lof N p) (· = p) := by
 unfold lof
 have := h.a; have := h.b; have := h.c; have := h.d; have := h.e
 rw [apnd_ok (by simp; omega) (by decide), apnd_ok (by simp; omega) (by decide), apnd_ok (by simp; omega) (by decide), apnd_ok (by simp; omega) (by decide), apnd_ok (by simp; omega) (by decide)]
 exact Tm.some rfl
end
end Go.D
