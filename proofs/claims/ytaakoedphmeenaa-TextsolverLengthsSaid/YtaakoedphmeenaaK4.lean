/-
 Systems of conditions on texts: solutions; copies; what is small. Plain theorems.
-/
import Derived.Test.YtaakoedphmeenaaK3
set_option linter.unusedSimpArgs false
set_option linter.unusedVariables false
namespace Go.D
open Go Go.X
structure OkP (p : TProb) : Prop where
 len : p.Max.length = p.Min.length
 le : p.Min.length ≤ 128
 mn : ∀ k ∈ p.Min, 0 ≤ k ∧ k ≤ 16
 mx : ∀ k ∈ p.Max, 0 ≤ k ∧ k ≤ 16
 ts : ∀ t ∈ p.Tests, okT t = true ∧ 0 ≤ t.Var ∧ t.Var < p.Min.length
 sm : ∀ e ∈ p.Same, (0 ≤ e.e0 ∧ e.e0 < p.Min.length) ∧ 0 ≤ e.e1 ∧ e.e1 < p.Min.length
 df : ∀ e ∈ p.Different, (0 ≤ e.e0 ∧ e.e0 < p.Min.length) ∧ 0 ≤ e.e1 ∧ e.e1 < p.Min.length
theorem okP_iff {p : TProb} : okP p = true ↔ OkP p := by
 simp only [okP, okPr, okV, okS, Bool.and_eq_true, decide_eq_true_eq, List.all_eq_true]
 constructor
 · rintro ⟨⟨⟨⟨⟨⟨h1, h2⟩, h3⟩, h4⟩, h5⟩, h6⟩, h7⟩; exact ⟨h1, h2, h3, h4, h5, h6, h7⟩
 · rintro ⟨h1, h2, h3, h4, h5, h6, h7⟩; exact ⟨⟨⟨⟨⟨⟨h1, h2⟩, h3⟩, h4⟩, h5⟩, h6⟩, h7⟩
theorem getD_n {α : Type} {l : List α} {n : Nat} {d : α} (h : n < l.length) : l.getD n d = l[n] := by rw [List.getD_eq_getElem?_getD, List.getElem?_eq_getElem h]; rfl
theorem var_n {v : Int} {n : Nat} (h : 0 ≤ v ∧ v < n) : ∃ k : Nat, v = (k : Int) ∧ k < n := ⟨v.toNat, by omega, by omega⟩
section
variable {p : TProb} {x : List (List UInt8)}
structure Lx (x : List (List UInt8)) : Prop where
 a : x.length ≤ Bg
 b : ∀ s ∈ x, s.length ≤ Bg
structure Lms (p : TProb) : Prop where
 a : p.Min.length ≤ 1000
 b : p.Max.length ≤ 1000
 c : p.Tests.length ≤ 1000
 d : p.Same.length ≤ 1000
 e : p.Different.length ≤ 1000
theorem lof_tm (h : Lms p) : Tm (fun N => lof N p) (· = p) := by
 unfold lof
 have := h.a; have := h.b; have := h.c; have := h.d; have := h.e
 rw [apnd_ok (by simp; omega) (by decide), apnd_ok (by simp; omega) (by decide), apnd_ok (by simp; omega) (by decide), apnd_ok (by simp; omega) (by decide), apnd_ok (by simp; omega) (by decide)]
 exact Tm.some rfl
def small (p : TProb) : Bool := decide (p.Max.length ≤ 6 ∧ p.Min.length ≤ 6 ∧ p.Tests.length ≤ 8 ∧ p.Same.length ≤ 8 ∧ p.Different.length ≤ 8) && okP p
theorem rSmall_tm (h : Lim p) : Tm (fun N => rSmall N p) (· = small p) := by
 unfold rSmall
 by_cases h1 : p.Max.length ≤ 6
 · by_cases h2 : p.Min.length ≤ 6
   · by_cases h3 : p.Tests.length ≤ 8
     · by_cases h4 : p.Same.length ≤ 8
       · by_cases h5 : p.Different.length ≤ 8
         · simp only [show ((p.Max.length : Int) ≤ 6) = True by simp; omega, show ((p.Min.length : Int) ≤ 6) = True by simp; omega, show ((p.Tests.length : Int) ≤ 8) = True by simp; omega, show ((p.Same.length : Int) ≤ 8) = True by simp; omega, show ((p.Different.length : Int) ≤ 8) = True by simp; omega, if_true]
           exact (rValid_tm h).eq (Tm.some (by simp [small, h1, h2, h3, h4, h5]))
         · simp only [show ((p.Max.length : Int) ≤ 6) = True by simp; omega, show ((p.Min.length : Int) ≤ 6) = True by simp; omega, show ((p.Tests.length : Int) ≤ 8) = True by simp; omega, show ((p.Same.length : Int) ≤ 8) = True by simp; omega, show ((p.Different.length : Int) ≤ 8) = False by simp; omega, if_true, if_false]
           exact Tm.some (by simp [small, h5])
       · simp only [show ((p.Max.length : Int) ≤ 6) = True by simp; omega, show ((p.Min.length : Int) ≤ 6) = True by simp; omega, show ((p.Tests.length : Int) ≤ 8) = True by simp; omega, show ((p.Same.length : Int) ≤ 8) = False by simp; omega, if_true, if_false]
         exact Tm.some (by simp [small, h4])
     · simp only [show ((p.Max.length : Int) ≤ 6) = True by simp; omega, show ((p.Min.length : Int) ≤ 6) = True by simp; omega, show ((p.Tests.length : Int) ≤ 8) = False by simp; omega, if_true, if_false]
       exact Tm.some (by simp [small, h3])
   · simp only [show ((p.Max.length : Int) ≤ 6) = True by simp; omega, show ((p.Min.length : Int) ≤ 6) = False by simp; omega, if_true, if_false]
     exact Tm.some (by simp [small, h2])
 · simp only [show ((p.Max.length : Int) ≤ 6) = False by simp; omega, if_false]
   exact Tm.some (by simp [small, h1])
theorem small_ok (h : small p = true) : OkP p ∧ Lms p ∧ p.Min.length ≤ 6 ∧ p.Tests.length ≤ 8 ∧ p.Same.length ≤ 8 ∧ p.Different.length ≤ 8 := by
 simp only [small, Bool.and_eq_true, decide_eq_true_eq] at h
 obtain ⟨⟨h1, h2, h3, h4, h5⟩, h6⟩ := h
 exact ⟨okP_iff.1 h6, ⟨by omega, by omega, by omega, by omega, by omega⟩, h2, h3, h4, h5⟩
end
end Go.D
