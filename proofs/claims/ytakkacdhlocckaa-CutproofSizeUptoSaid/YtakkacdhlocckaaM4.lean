/-
  Inequalities: what holds, by both programs. Plain theorems.
-/
import Derived.Test.YtakkacdhlocckaaM3
import Derived.Test.YtakkacdhlocckaaPD
namespace Go.D
open Go Go.X
def OkB (K : Nat) (x : Big) : Prop := InB W32 x.Digits ∧ x.Digits.length ≤ K
theorem OkB.mono {K K' : Nat} {x : Big} (h : OkB K x) (hK : K ≤ K') : OkB K' x := ⟨h.1, by have := h.2; omega⟩
theorem OkB.nil {K : Nat} {b : Bool} : OkB K ⟨b, []⟩ := ⟨.nil, Nat.zero_le _⟩
abbrev big0 : Big := ⟨false, []⟩
theorem Is.ok {x : Big} {v : Int} {K : Nat} (h : Is x v) (hl : x.Digits.length ≤ K) : OkB K x := ⟨h.dg.inB, hl⟩
theorem Tm.each {α β : Type} {body : Nat → Int → Option (Stp Int (Sum Unit β))} (xs : List α) (P : α → Prop) {Q : Sum Unit β → Prop} (hl : xs.length ≤ 9223372036854775807)
    (step : ∀ (n : Nat) (hn : n < xs.length), (∀ j, (hj : j < xs.length) → j < n → P xs[j]) → Tm (fun N => body N (n : Int)) (fun t => (t = .next (iw ((n : Int) + 1)) ∧ P xs[n]) ∨ (∃ b, t = .done (.inr b) ∧ Q (.inr b))))
    (fin : (∀ x ∈ xs, P x) → Tm (fun N => body N (xs.length : Int)) (fun t => ∃ r, t = .done r ∧ Q r)) : Tm (fun N => loopM (body N) N 0) Q := by
  refine Tm.loop (fun i : Int => ∃ n : Nat, i = n ∧ n ≤ xs.length ∧ ∀ j, (hj : j < xs.length) → j < n → P xs[j]) (fun i : Int => xs.length - i.toNat) ⟨0, rfl, Nat.zero_le _, fun _ _ h => absurd h (by omega)⟩ ?_
  rintro _ ⟨n, rfl, hn, hP⟩
  rcases Nat.lt_or_ge n xs.length with h | h
  · refine (step n h hP).mono ?_
    rintro t (⟨rfl, hp⟩ | ⟨b, rfl, hq⟩)
    · refine ⟨⟨n + 1, by rw [iw_eq] <;> omega, by omega, fun j hj hlt => ?_⟩, ?_⟩
      · rcases Nat.lt_or_ge j n with h' | h'
        · exact hP j hj h'
        · obtain rfl : j = n := by omega
          exact hp
      · show xs.length - (iw ((n : Int) + 1)).toNat < xs.length - ((n : Int)).toNat
        rw [iw_eq] <;> omega
    · exact hq
  · obtain rfl : n = xs.length := by omega
    refine (fin fun x hx => ?_).mono ?_
    · obtain ⟨j, hj, rfl⟩ := List.mem_iff_getElem.1 hx
      exact hP j hj hj
    · rintro t ⟨r, rfl, hq⟩
      exact hq
theorem rbigs_tm {l : List Big} (hl : l.length ≤ 9223372036854775807) : Tm (fun N => rbigs N l) (fun r => r = true → l.length ≤ 6 ∧ ∀ b ∈ l, b.Digits.length ≤ 4) := by
  unfold rbigs
  refine Tm.bind (Tm.each (body := fun N => rbigs_b1 N l) l (fun b => b.Digits.length ≤ 4) (Q := fun r => r = .inr false ∨ (r = .inl () ∧ ∀ b ∈ l, b.Digits.length ≤ 4)) hl ?_ ?_) ?_
  · intro n hn _
    unfold rbigs_b1
    refine Tm.pos (by omega) (Tm.step (idx_ok hn) (Tm.ite (fun h => Tm.pure (.inr ⟨_, rfl, .inl rfl⟩)) (fun h => Tm.pure (.inl ⟨rfl, by omega⟩))))
  · intro h
    unfold rbigs_b1
    exact Tm.neg (by omega) (Tm.pure ⟨_, rfl, .inr ⟨rfl, h⟩⟩)
  · rintro _ (rfl | ⟨rfl, h⟩)
    · exact Tm.pure (fun h => by cases h)
    · exact Tm.pure (fun h' => ⟨by have := of_decide_eq_true h'; omega, h⟩)
end Go.D
