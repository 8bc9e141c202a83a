/-
  Inequalities: what holds, by both programs. Plain theorems.
-/
import Derived.Test.YtakkacdhlocckaaM3
import Derived.Test.YtakkacdhlocckaaPD
namespace Go.D
open Go Go.X
def OkB (K : Nat) (x : Big) : Prop := InB W32 x.Digits ∧ x.Digits.length ≤ K
def OkI (K : Nat) (q : Ineq) : Prop := q.Coefs.length ≤ K ∧ (∀ b ∈ q.Coefs, OkB K b) ∧ OkB K q.Bound
theorem OkB.mono {K K' : Nat} {x : Big} (h : OkB K x) (hK : K ≤ K') : OkB K' x := ⟨h.1, by have := h.2; omega⟩
theorem OkB.nil {K : Nat} {b : Bool} : OkB K ⟨b, []⟩ := ⟨.nil, Nat.zero_le _⟩
abbrev big0 : Big := ⟨false, []⟩
theorem bv_nil {b : Bool} : bv ⟨b, []⟩ = 0 := by cases b <;> rfl
theorem Is.ok {x : Big} {v : Int} {K : Nat} (h : Is x v) (hl : x.Digits.length ≤ K) : OkB K x := ⟨h.dg.inB, hl⟩
theorem Tm.each {α β : Type} {body : Nat → Int → Option (Stp Int (Sum Unit β))} (xs : List α) (P : α → Prop) {Q : Sum Unit β → Prop} (hl : xs.length ≤ 9223372036854775807)
    (step : ∀ (n : Nat) (hn : n < xs.length), (∀ j, (hj : j < xs.length) → j < n → P xs[j]) → Tm (fun N => body N (n : Int)) (fun t => (t = .next (iw ((n : Int) + 1)) ∧ P xs[n]) ∨ (∃ b, t = .done (.inr b) ∧ Q (.inr b))))
    (fin : (∀ x ∈ xs, P x) → Tm (fun N => body N (xs.length : Int)) (fun t => ∃ r, t = .done r ∧ Q r)) : Tm (fun N => loopM (body N) N 0) Q := by
  refine Tm.loop (fun i : Int => ∃ n : Nat, i = n ∧ n ≤ xs.length ∧ ∀ j, (hj : j < xs.length) → j < n → P xs[j]) (fun i : Int => xs.length - i.toNat) ⟨0, rfl, Nat.zero_le _, fun _ _ h => absurd h (by omega)⟩ ?_
  rintro _ ⟨n, rfl, hn, hP⟩
  rcases Nat.lt_or_ge n xs.length with h | h
  · refine (step n h hP).mono ?_
    rintro t (⟨rfl, hp⟩ | ⟨b, rfl, hq⟩)
    · refine ⟨⟨n + 1, by rw [iw_eq] <;> omega, by omega, fun j hj hlt => ?_⟩, ?_⟩
      · rcases Nat.lt_or_ge j n with h' | h'
        · exact hP j hj h'
        · obtain rfl : j = n := by omega
          exact hp
      · show xs.length - (iw ((n : Int) + 1)).toNat < xs.length - ((n : Int)).toNat
        rw [iw_eq] <;> omega
    · exact hq
  · obtain rfl : n = xs.length := by omega
    refine (fin fun x hx => ?_).mono ?_
    · obtain ⟨j, hj, rfl⟩ := List.mem_iff_getElem.1 hx
      exact hP j hj hj
    · rintro t ⟨r, rfl, hq⟩
      exact hq
def SmallI (q : Ineq) : Prop := q.Coefs.length ≤ 6 ∧ (∀ b ∈ q.Coefs, b.Digits.length ≤ 4) ∧ q.Bound.Digits.length ≤ 4
theorem rbigs_tm {l : List Big} (hl : l.length ≤ 9223372036854775807) : Tm (fun N => rbigs N l) (fun r => r = true → l.length ≤ 6 ∧ ∀ b ∈ l, b.Digits.length ≤ 4) := by
  unfold rbigs
  refine Tm.bind (Tm.each (body := fun N => rbigs_b1 N l) l (fun b => b.Digits.length ≤ 4) (Q := fun r => r = .inr false ∨ (r = .inl () ∧ ∀ b ∈ l, b.Digits.length ≤ 4)) hl ?_ ?_) ?_
  · intro n hn _
    unfold rbigs_b1
    refine Tm.pos (by omega) (Tm.step (idx_ok hn) (Tm.ite (fun h => Tm.pure (.inr ⟨_, rfl, .inl rfl⟩)) (fun h => Tm.pure (.inl ⟨rfl, by omega⟩))))
  · intro h
    unfold rbigs_b1
    exact Tm.neg (by omega) (Tm.pure ⟨_, rfl, .inr ⟨rfl, h⟩⟩)
  · rintro _ (rfl | ⟨rfl, h⟩)
    · exact Tm.pure (fun h => by cases h)
    · exact Tm.pure (fun h' => ⟨by have := of_decide_eq_true h'; omega, h⟩)
theorem rSmall_tm {l : List Ineq} (hl : l.length ≤ 9223372036854775807) (hc : ∀ q ∈ l, q.Coefs.length ≤ 9223372036854775807) : Tm (fun N => rSmall N l) (fun r => r = true → l.length ≤ 12 ∧ ∀ q ∈ l, SmallI q) := by
  unfold rSmall
  refine Tm.bind (Tm.each (body := fun N => rSmall_b1 N l) l SmallI (Q := fun r => r = .inr false ∨ (r = .inl () ∧ ∀ q ∈ l, SmallI q)) hl ?_ ?_) ?_
  · intro n hn _
    unfold rSmall_b1
    refine Tm.pos (by omega) (Tm.bind (Q := fun r => r = false → SmallI l[n]) (Tm.step (idx_ok hn) ?_) ?_)
    · refine Tm.bind (rbigs_tm (hc _ (List.getElem_mem hn))) ?_
      intro r hr
      refine Tm.ite (fun h => Tm.pure (fun h => by cases h)) (fun h => Tm.step (idx_ok hn) (Tm.pure (fun h' => ?_)))
      have := hr (by simpa using h)
      exact ⟨this.1, this.2, by have := of_decide_eq_false h'; omega⟩
    · intro r hr
      refine Tm.ite (fun h => Tm.pure (.inr ⟨_, rfl, .inl rfl⟩)) (fun h => Tm.pure (.inl ⟨rfl, hr (by simpa using h)⟩))
  · intro h
    unfold rSmall_b1
    exact Tm.neg (by omega) (Tm.pure ⟨_, rfl, .inr ⟨rfl, h⟩⟩)
  · rintro _ (rfl | ⟨rfl, h⟩)
    · exact Tm.pure (fun h => by cases h)
    · exact Tm.pure (fun h' => ⟨by have := of_decide_eq_true h'; omega, h⟩)
theorem getDb {l : List Big} {n : Nat} (h : n < l.length) : l.getD n big0 = l[n] := by rw [List.getD_eq_getElem?_getD, List.getElem?_eq_getElem h]; rfl
def badV (q : Ineq) : Bool := decide ((∀ b ∈ q.Coefs, bv b = 0) ∧ bv q.Bound < 0)
theorem sgn_zero {a : Int} : sgn a 0 = 0 ↔ a = 0 := by unfold sgn; (repeat' split) <;> omega
theorem sgn_neg {a : Int} : sgn a 0 < 0 ↔ a < 0 := by unfold sgn; (repeat' split) <;> omega
theorem cContradictory_tm {K : Nat} {q : Ineq} (hK : K ≤ 1073741824) (hq : OkI K q) : Tm (fun N => cContradictory N q) (fun r => r = badV q) := by
  unfold cContradictory badV
  have hlK := hq.1
  refine Tm.bind (Tm.each (body := fun N => cContradictory_b1 N q) q.Coefs (fun b => bv b = 0) (Q := fun r => (r = .inr false ∧ ¬ ∀ b ∈ q.Coefs, bv b = 0) ∨ (r = .inl () ∧ ∀ b ∈ q.Coefs, bv b = 0)) (by omega) ?_ ?_) ?_
  · intro n hn _
    unfold cContradictory_b1
    have h1 := hq.2.1 _ (List.getElem_mem hn)
    refine Tm.pos (by omega) (Tm.step (idx_ok hn) (Tm.bind (bSign_tm h1.1 (by have := h1.2; omega)) ?_))
    rintro _ rfl
    refine Tm.ite (fun h => Tm.pure (.inr ⟨_, rfl, .inl ⟨rfl, fun h' => h (sgn_zero.2 (h' _ (List.getElem_mem hn)))⟩⟩)) (fun h => Tm.pure (.inl ⟨rfl, sgn_zero.1 (by omega)⟩))
  · intro h
    unfold cContradictory_b1
    exact Tm.neg (by omega) (Tm.pure ⟨_, rfl, .inr ⟨rfl, h⟩⟩)
  · rintro _ (⟨rfl, h⟩ | ⟨rfl, h⟩)
    · refine Tm.pure ?_
      simp only [h, false_and, decide_false]
    · refine Tm.bind (bSign_tm hq.2.2.1 (by have := hq.2.2.2; omega)) ?_
      rintro _ rfl
      refine Tm.pure ?_
      simp only [sgn_neg]
      exact decide_eq_decide.2 ⟨fun h' => ⟨h, h'⟩, fun h' => h'.2⟩
theorem rBad_tm {K : Nat} {q : Ineq} (hK : K ≤ 1073741824) (hq : OkI K q) : Tm (fun N => rBad N q) (fun r => r = badV q) := by
  unfold rBad badV
  have hlK := hq.1
  refine Tm.bind (Tm.each (body := fun N => rBad_b1 N q) q.Coefs (fun b => bv b = 0) (Q := fun r => (r = .inr false ∧ ¬ ∀ b ∈ q.Coefs, bv b = 0) ∨ (r = .inl () ∧ ∀ b ∈ q.Coefs, bv b = 0)) (by omega) ?_ ?_) ?_
  · intro n hn _
    unfold rBad_b1
    have h1 := hq.2.1 _ (List.getElem_mem hn)
    refine Tm.pos (by omega) (Tm.step (idx_ok hn) (Tm.bind (rSign_tm h1.1 (by have := h1.2; omega)) ?_))
    rintro _ rfl
    refine Tm.ite (fun h => Tm.pure (.inr ⟨_, rfl, .inl ⟨rfl, fun h' => h (sgn_zero.2 (h' _ (List.getElem_mem hn)))⟩⟩)) (fun h => Tm.pure (.inl ⟨rfl, sgn_zero.1 (by omega)⟩))
  · intro h
    unfold rBad_b1
    exact Tm.neg (by omega) (Tm.pure ⟨_, rfl, .inr ⟨rfl, h⟩⟩)
  · rintro _ (⟨rfl, h⟩ | ⟨rfl, h⟩)
    · refine Tm.pure ?_
      simp only [h, false_and, decide_false]
    · refine Tm.bind (rSign_tm hq.2.2.1 (by have := hq.2.2.2; omega)) ?_
      rintro _ rfl
      refine Tm.pure ?_
      simp only [sgn_neg]
      exact decide_eq_decide.2 ⟨fun h' => ⟨h, h'⟩, fun h' => h'.2⟩
end Go.D
