/-
  What the plain reference's counterparts of the same numbers reckon. Plain theorems.
-/
import Derived.Test.YthmoefciofnmdaaDoorM2
import Derived.Test.YthmoefciofnmdaaDoorPR
set_option linter.unusedSimpArgs false
set_option linter.unusedVariables false
namespace Go.D
open Go Go.X
theorem getD_ok {l : List Int} {n : Nat} (h : n < l.length) : l.getD n 0 = l[n] := by rw [List.getD_eq_getElem?_getD, List.getElem?_eq_getElem h]; rfl
theorem getD_out {l : List Int} {n : Nat} (h : l.length ≤ n) : l.getD n 0 = 0 := by rw [List.getD_eq_getElem?_getD, List.getElem?_eq_none h]; rfl
theorem take_all {l : List Int} {n : Nat} (h : l.length ≤ n) : l.take n = l := List.take_of_length_le h
theorem rSame_refl {a : Big} (hl : a.Digits.length ≤ 9223372036854775807) : Tm (fun N => rSame N a a) (fun r => r = true) := by
  unfold rSame
  refine Tm.bind (Q := (· = false)) (Tm.neg (by simp) (Tm.pure (by simp))) ?_
  rintro _ rfl
  refine Tm.neg (by simp) (Tm.bind (Tm.loop (fun i : Int => ∃ n : Nat, i = n ∧ n ≤ a.Digits.length) (fun i => a.Digits.length - i.toNat) (Q := fun r : Sum Unit Bool => r = .inl ()) ⟨0, rfl, by omega⟩ ?_) ?_)
  · rintro _ ⟨n, rfl, hn⟩
    dsimp only [rSame_b1]
    refine Tm.ite (fun h => ?_) (fun h => Tm.pure rfl)
    refine Tm.step (idx_ok (by omega)) (Tm.step (idx_ok (by omega)) (Tm.neg (by simp) (Tm.pure ⟨⟨n + 1, by rw [iw_eq] <;> omega, by omega⟩, ?_⟩)))
    show a.Digits.length - (iw ((n : Int) + 1)).toNat < a.Digits.length - ((n : Int)).toNat
    rw [iw_eq] <;> omega
  · rintro _ rfl
    exact Tm.pure rfl
end Go.D
