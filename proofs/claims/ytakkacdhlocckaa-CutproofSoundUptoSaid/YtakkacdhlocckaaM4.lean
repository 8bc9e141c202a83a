/-
  Inequalities: what holds, by both programs. Plain theorems.
-/
import Derived.Test.YtakkacdhlocckaaM3
import Derived.Test.YtakkacdhlocckaaPD
namespace Go.D
open Go Go.X
def OkB (K : Nat) (x : Big) : Prop := InB W32 x.Digits ∧ x.Digits.length ≤ K
def OkI (K : Nat) (q : Ineq) : Prop := q.Coefs.length ≤ K ∧ (∀ b ∈ q.Coefs, OkB K b) ∧ OkB K q.Bound
theorem OkB.mono {K K' : Nat} {x : Big} (h : OkB K x) (hK : K ≤ K') : OkB K' x := ⟨h.1, by have := h.2; omega⟩
theorem OkB.nil {K : Nat} {b : Bool} : OkB K ⟨b, []⟩ := ⟨.nil, Nat.zero_le _⟩
abbrev big0 : Big := ⟨false, []⟩
theorem bv_nil {b : Bool} : bv ⟨b, []⟩ = 0 := by cases b <;> rfl
theorem Is.ok {x : Big} {v : Int} {K : Nat} (h : Is x v) (hl : x.Digits.length ≤ K) : OkB K x := ⟨h.dg.inB, hl⟩
theorem Tm.each {α β : Type} {body : Nat → Int → Option (Stp Int (Sum Unit β))} (xs : List α) (P : α → Prop) {Q : Sum Unit β → Prop} (hl : xs.length ≤ 9223372036854775807)
    (step : ∀ (n : Nat) (hn : n < xs.length), (∀ j, (hj : j < xs.length) → j < n → P xs[j]) → Tm (fun N => body N (n : Int)) (fun t => (t = .next (iw ((n : Int) + 1)) ∧ P xs[n]) ∨ (∃ b, t = .done (.inr b) ∧ Q (.inr b))))
    (fin : (∀ x ∈ xs, P x) → Tm (fun N => body N (xs.length : Int)) (fun t => ∃ r, t = .done r ∧ Q r)) : Tm (fun N => loopM (body N) N 0) Q := by
  refine Tm.loop (fun i : Int => ∃ n : Nat, i = n ∧ n ≤ xs.length ∧ ∀ j, (hj : j < xs.length) → j < n → P xs[j]) (fun i : Int => xs.length - i.toNat) ⟨0, rfl, Nat.zero_le _, fun _ _ h => absurd h (by omega)⟩ ?_
  rintro _ ⟨n, rfl, hn, hP⟩
  rcases Nat.lt_or_ge n xs.length with h | h
  · refine (step n h hP).mono ?_
    rintro t (⟨rfl, hp⟩ | ⟨b, rfl, hq⟩)
    · refine ⟨⟨n + 1, by rw [iw_eq] <;> omega, by omega, fun j hj hlt => ?_⟩, ?_⟩
      · rcases Nat.lt_or_ge j n with h' | h'
        · exact hP j hj h'
        · obtain rfl : j = n := by omega
          exact hp
      · show xs.length - (iw ((n : Int) + 1)).toNat < xs.length - ((n : Int)).toNat
        rw [iw_eq] <;> omega
    · exact hq
  · obtain rfl : n = xs.length := by omega
    refine (fin fun x hx => ?_).mono ?_
    · obtain ⟨j, hj, rfl⟩ := List.mem_iff_getElem.1 hx
      exact hP j hj hj
    · rintro t ⟨r, rfl, hq⟩
      exact hq
def SmallI (q : Ineq) : Prop := q.Coefs.length ≤ 6 ∧ (∀ b ∈ q.Coefs, b.Digits.length ≤ 4) ∧ q.Bound.Digits.length ≤ 4
theorem rbigs_tm {l : List Big} (hl : l.length ≤ 9223372036854775807) : Tm (fun N => rbigs N l) (fun r => r = true → l.length ≤ 6 ∧ ∀ b ∈ l, b.Digits.length ≤ 4) := by
  unfold rbigs
  refine Tm.bind (Tm.each (body := fun N => rbigs_b1 N l) l (fun b => b.Digits.length ≤ 4) (Q := fun r => r = .inr false ∨ (r = .inl () ∧ ∀ b ∈ l, b.Digits.length ≤ 4)) hl ?_ ?_) ?_
  · intro n hn _
    unfold rbigs_b1
    refine Tm.pos (by omega) (Tm.step (idx_ok hn) (Tm.ite (fun h => Tm.pure (.inr ⟨_, rfl, .inl rfl⟩)) (fun h => Tm.pure (.inl ⟨rfl, by omega⟩))))
  · intro h
    unfold rbigs_b1
    exact Tm.neg (by omega) (Tm.pure ⟨_, rfl, .inr ⟨rfl, h⟩⟩)
  · rintro _ (rfl | ⟨rfl, h⟩)
    · exact Tm.pure (fun h => by cases h)
    · exact Tm.pure (fun h' => ⟨by have := of_decide_eq_true h'; omega, h⟩)
theorem rSmall_tm {l : List Ineq} (hl : l.length ≤ 9223372036854775807) (hc : ∀ q ∈ l, q.Coefs.length ≤ 9223372036854775807) : Tm (fun N => rSmall N l) (fun r => r = true → l.length ≤ 12 ∧ ∀ q ∈ l, SmallI q) := by
  unfold rSmall
  refine Tm.bind (Tm.each (body := fun N => rSmall_b1 N l) l SmallI (Q := fun r => r = .inr false ∨ (r = .inl () ∧ ∀ q ∈ l, SmallI q)) hl ?_ ?_) ?_
  · intro n hn _
    unfold rSmall_b1
    refine Tm.pos (by omega) (Tm.bind (Q := fun r => r = false → SmallI l[n]) (Tm.step (idx_ok hn) ?_) ?_)
    · refine Tm.bind (rbigs_tm (hc _ (List.getElem_mem hn))) ?_
      intro r hr
      refine Tm.ite (fun h => Tm.pure (fun h => by cases h)) (fun h => Tm.step (idx_ok hn) (Tm.pure (fun h' => ?_)))
      have := hr (by simpa using h)
      exact ⟨this.1, this.2, by have := of_decide_eq_false h'; omega⟩
    · intro r hr
      refine Tm.ite (fun h => Tm.pure (.inr ⟨_, rfl, .inl rfl⟩)) (fun h => Tm.pure (.inl ⟨rfl, hr (by simpa using h)⟩))
  · intro h
    unfold rSmall_b1
    exact Tm.neg (by omega) (Tm.pure ⟨_, rfl, .inr ⟨rfl, h⟩⟩)
  · rintro _ (rfl | ⟨rfl, h⟩)
    · exact Tm.pure (fun h => by cases h)
    · exact Tm.pure (fun h' => ⟨by have := of_decide_eq_true h'; omega, h⟩)
def dot (a b : List Big) : Nat → Int
  | 0 => 0
  | n + 1 => dot a b n + bv (a.getD n big0) * bv (b.getD n big0)
theorem getDb {l : List Big} {n : Nat} (h : n < l.length) : l.getD n big0 = l[n] := by rw [List.getD_eq_getElem?_getD, List.getElem?_eq_getElem h]; rfl
def holdsV (q : Ineq) (x : List Big) : Bool := decide (q.Coefs.length = x.length) && decide (dot q.Coefs x x.length ≤ bv q.Bound)
theorem sgn_le {a b : Int} : sgn a b ≤ 0 ↔ a ≤ b := by unfold sgn; (repeat' split) <;> omega
theorem rHolds_tm {K : Nat} {q : Ineq} {x : List Big} (hK : K ≤ 1073741824) (hq : OkI K q) (hx : ∀ b ∈ x, OkB K b) (hxl : x.length ≤ 9223372036854775807) : Tm (fun N => rHolds N q x) (fun r => r = holdsV q x) := by
  unfold rHolds holdsV
  refine Tm.ite (fun h => Tm.pure ?_) (fun h => ?_)
  · have : ¬ q.Coefs.length = x.length := by omega
    simp [this]
  · have hl : q.Coefs.length = x.length := by omega
    have hlK := hq.1
    refine Tm.bind (Tm.loop (fun s : Bool × List Int × Int => ∃ n : Nat, s.2.2 = n ∧ n ≤ x.length ∧ OkB (2 * K + n) ⟨s.1, s.2.1⟩ ∧ bv ⟨s.1, s.2.1⟩ = dot q.Coefs x n) (fun s => x.length - s.2.2.toNat)
      (Q := fun r : Bool × List Int => OkB (3 * K) ⟨r.1, r.2⟩ ∧ bv ⟨r.1, r.2⟩ = dot q.Coefs x x.length) ⟨0, rfl, Nat.zero_le _, .nil, rfl⟩ ?_) ?_
    · rintro ⟨neg, ds, i⟩ ⟨n, rfl, hn, ho, hv⟩
      dsimp only [rHolds_b1] at *
      refine Tm.ite (fun h1 => ?_) (fun h1 => Tm.pure ?_)
      · refine Tm.step (idx_ok (by omega)) (Tm.step (idx_ok (by omega)) ?_)
        have h2 := hq.2.1 _ (List.getElem_mem (show n < q.Coefs.length by omega))
        have h3 := hx _ (List.getElem_mem (show n < x.length by omega))
        refine Tm.bind (rMul_tm h2.1 h3.1 (by have := h2.2; omega) (by have := h3.2; omega)) ?_
        rintro m ⟨hm, hml⟩
        have := h2.2
        have := h3.2
        have := ho.2
        refine Tm.bind (rAdd_tm ho.1 hm.dg.inB (by omega) (by omega)) ?_
        rintro a ⟨ha, hal⟩
        refine Tm.pure ⟨⟨n + 1, by dsimp only; rw [iw_eq] <;> omega, by omega, ?_, ?_⟩, ?_⟩
        · have hd : ds.length ≤ 2 * K + n := ho.2
          dsimp only at hal
          exact ha.ok (by omega)
        · show bv a = _
          rw [ha.bv, hv, hm.bv, dot, getDb (by omega), getDb (by omega)]
        · show x.length - (iw ((n : Int) + 1)).toNat < x.length - ((n : Int)).toNat
          rw [iw_eq] <;> omega
      · obtain rfl : n = x.length := by omega
        exact ⟨ho.mono (by omega), hv⟩
    · rintro ⟨neg, ds⟩ ⟨ho, hv⟩
      have h1 : ds.length ≤ 3 * K := ho.2
      have h2 := hq.2.2.2
      refine Tm.bind (rCompare_tm ho.1 hq.2.2.1 (by show ds.length ≤ _; omega) (by omega)) ?_
      rintro _ rfl
      refine Tm.pure ?_
      dsimp only at hv
      rw [hv]
      simp [hl, sgn_le]
def badV (q : Ineq) : Bool := decide ((∀ b ∈ q.Coefs, bv b = 0) ∧ bv q.Bound < 0)
theorem sgn_zero {a : Int} : sgn a 0 = 0 ↔ a = 0 := by unfold sgn; (repeat' split) <;> omega
theorem sgn_neg {a : Int} : sgn a 0 < 0 ↔ a < 0 := by unfold sgn; (repeat' split) <;> omega
theorem cContradictory_tm {K : Nat} {q : Ineq} (hK : K ≤ 1073741824) (hq : OkI K q) : Tm (fun N => cContradictory N q) (fun r => r = badV q) := by
  unfold cContradictory badV
  have hlK := hq.1
  refine Tm.bind (Tm.each (body := fun N => cContradictory_b1 N q) q.Coefs (fun b => bv b = 0) (Q := fun r => (r = .inr false ∧ ¬ ∀ b ∈ q.Coefs, bv b = 0) ∨ (r = .inl () ∧ ∀ b ∈ q.Coefs, bv b = 0)) (by omega) ?_ ?_) ?_
  · intro n hn _
    unfold cContradictory_b1
    have h1 := hq.2.1 _ (List.getElem_mem hn)
    refine Tm.pos (by omega) (Tm.step (idx_ok hn) (Tm.bind (bSign_tm h1.1 (by have := h1.2; omega)) ?_))
    rintro _ rfl
    refine Tm.ite (fun h => Tm.pure (.inr ⟨_, rfl, .inl ⟨rfl, fun h' => h (sgn_zero.2 (h' _ (List.getElem_mem hn)))⟩⟩)) (fun h => Tm.pure (.inl ⟨rfl, sgn_zero.1 (by omega)⟩))
  · intro h
    unfold cContradictory_b1
    exact Tm.neg (by omega) (Tm.pure ⟨_, rfl, .inr ⟨rfl, h⟩⟩)
  · rintro _ (⟨rfl, h⟩ | ⟨rfl, h⟩)
    · refine Tm.pure ?_
      simp only [h, false_and, decide_false]
    · refine Tm.bind (bSign_tm hq.2.2.1 (by have := hq.2.2.2; omega)) ?_
      rintro _ rfl
      refine Tm.pure ?_
      simp only [sgn_neg]
      exact decide_eq_decide.2 ⟨fun h' => ⟨h, h'⟩, fun h' => h'.2⟩
theorem rBad_tm {K : Nat} {q : Ineq} (hK : K ≤ 1073741824) (hq : OkI K q) : Tm (fun N => rBad N q) (fun r => r = badV q) := by
  unfold rBad badV
  have hlK := hq.1
  refine Tm.bind (Tm.each (body := fun N => rBad_b1 N q) q.Coefs (fun b => bv b = 0) (Q := fun r => (r = .inr false ∧ ¬ ∀ b ∈ q.Coefs, bv b = 0) ∨ (r = .inl () ∧ ∀ b ∈ q.Coefs, bv b = 0)) (by omega) ?_ ?_) ?_
  · intro n hn _
    unfold rBad_b1
    have h1 := hq.2.1 _ (List.getElem_mem hn)
    refine Tm.pos (by omega) (Tm.step (idx_ok hn) (Tm.bind (rSign_tm h1.1 (by have := h1.2; omega)) ?_))
    rintro _ rfl
    refine Tm.ite (fun h => Tm.pure (.inr ⟨_, rfl, .inl ⟨rfl, fun h' => h (sgn_zero.2 (h' _ (List.getElem_mem hn)))⟩⟩)) (fun h => Tm.pure (.inl ⟨rfl, sgn_zero.1 (by omega)⟩))
  · intro h
    unfold rBad_b1
    exact Tm.neg (by omega) (Tm.pure ⟨_, rfl, .inr ⟨rfl, h⟩⟩)
  · rintro _ (⟨rfl, h⟩ | ⟨rfl, h⟩)
    · refine Tm.pure ?_
      simp only [h, false_and, decide_false]
    · refine Tm.bind (rSign_tm hq.2.2.1 (by have := hq.2.2.2; omega)) ?_
      rintro _ rfl
      refine Tm.pure ?_
      simp only [sgn_neg]
      exact decide_eq_decide.2 ⟨fun h' => ⟨h, h'⟩, fun h' => h'.2⟩
end Go.D
