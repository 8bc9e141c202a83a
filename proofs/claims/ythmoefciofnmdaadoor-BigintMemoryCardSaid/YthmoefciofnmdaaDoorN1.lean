/-
  The laws of chapter 02: Sum, Product, Division, Ring, Remainder. Plain theorems.
-/
import Derived.Test.YthmoefciofnmdaaDoorM12
import Derived.Test.YthmoefciofnmdaaDoorA02
set_option linter.unusedSimpArgs false
set_option linter.unusedVariables false
namespace Go.D
open Go Go.X
def Ok8 (K : Nat) (x : Big) : Prop := InB W32 x.Digits ∧ x.Digits.length ≤ K
theorem lcp_tm {x : Big} (hl : x.Digits.length ≤ 1000) : Tm (fun N => lcp N x) (fun r => r = x) := by
  unfold lcp rCopy
  refine Tm.bind (Q := (· = x)) (Tm.step (apnd_ok (by simp; omega) (by decide)) (Tm.pure ?_)) (fun _ h => Tm.pure h)
  simp
theorem lsmall_tm {l : List Big} (hl : l.length ≤ 1000) : Tm (fun N => lsmall N l) (fun r => r = true → ∀ x ∈ l, x.Digits.length ≤ 8) := by
  unfold lsmall
  refine Tm.bind (Tm.loop (fun i : Int => ∃ n : Nat, i = n ∧ n ≤ l.length ∧ ∀ j, (hj : j < l.length) → j < n → l[j].Digits.length ≤ 8) (fun i => l.length - i.toNat)
    (Q := fun r : Sum Unit Bool => r = .inr false ∨ (r = .inl () ∧ ∀ x ∈ l, x.Digits.length ≤ 8)) ⟨0, rfl, Nat.zero_le _, fun _ _ h => absurd h (by omega)⟩ ?_) ?_
  · rintro _ ⟨n, rfl, hn, hP⟩
    dsimp only [lsmall_b1]
    refine Tm.ite (fun h => ?_) (fun h => Tm.pure (.inr ⟨rfl, fun x hx => ?_⟩))
    · have hk : n < l.length := by omega
      refine Tm.step (idx_ok hk) (Tm.step (a := decide (((List.length l[n].Digits : Int) : Int) ≤ 8)) rfl ?_)
      refine Tm.ite (fun h1 => Tm.pure (.inl rfl)) (fun h1 => Tm.pure ⟨⟨n + 1, by rw [iw_eq] <;> omega, hk, fun j hj hjn => ?_⟩, ?_⟩)
      · rcases Nat.lt_or_ge j n with h2 | h2
        · exact hP j hj h2
        · obtain rfl : j = n := by omega
          simp at h1; omega
      · show l.length - (iw ((n : Int) + 1)).toNat < l.length - ((n : Int)).toNat
        rw [iw_eq] <;> omega
    · obtain ⟨j, hj, rfl⟩ := List.getElem_of_mem hx
      exact hP j hj (by omega)
  · rintro _ (rfl | ⟨rfl, h⟩)
    · exact Tm.pure (fun h => by cases h)
    · exact Tm.pure (fun _ => h)
theorem head_tm {l : List Big} (hl : l.length ≤ 1000) {g : Nat → Option Bool} (h : (∀ x ∈ l, x.Digits.length ≤ 8) → Tm g (fun r => r = true)) :
    Tm (fun N => (((awake N).bind fun r => if (!r) = true then some true else (lsmall N l).bind fun r2 => some (!r2)) : Option Bool).bind fun ss =>
      if ss = true then (awake N).bind fun r => some r else g N) (fun r => r = true) := by
  refine Tm.bind (Q := fun r => r = false → ∀ x ∈ l, x.Digits.length ≤ 8) (Tm.bind awake_tm ?_) ?_
  · rintro _ rfl
    refine Tm.neg (by simp) (Tm.bind (lsmall_tm hl) (fun r hr => Tm.pure (fun h1 => hr (by simpa using h1))))
  · intro r hr
    exact Tm.ite (fun h => Tm.bind awake_tm (fun _ h => Tm.pure h)) (fun h1 => h (hr (by simpa using h1)))
theorem cp_tm {x : Big} {K : Nat} (hl : Ok8 K x) (hK : K ≤ 1000) {β : Type} {g : Nat → Big → Option β} {R : β → Prop} (h : Tm (fun N => g N x) R) : Tm (fun N => (lcp N x).bind (g N)) R := by
  refine Tm.bind (lcp_tm (by have := hl.2; omega)) ?_
  rintro _ rfl
  exact h
end Go.D
