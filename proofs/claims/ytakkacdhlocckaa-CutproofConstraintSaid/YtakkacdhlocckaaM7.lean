/-
  The law on a constraint and its inequalities. Plain theorems.
-/
import Derived.Test.YtakkacdhlocckaaM6
namespace Go.D
open Go Go.X
def dotI (vs xs : List Int) : Nat → Int
  | 0 => 0
  | n + 1 => dotI vs xs n + vs.getD n 0 * xs.getD n 0
theorem IsL.getD {cs : List Big} {vs : List Int} (h : IsL cs vs) (n : Nat) : bv (cs.getD n big0) = vs.getD n 0 := by
  rcases Nat.lt_or_ge n cs.length with hn | hn
  · rw [getDb hn, getD_ok (by rw [← h.1]; exact hn)]
    exact (h.2 n hn _).bv
  · rw [getD_out (by rw [← h.1]; exact hn), List.getD_eq_getElem?_getD, List.getElem?_eq_none hn]
    rfl
theorem dot_eq {cs ys : List Big} {vs xs : List Int} (h : IsL cs vs) (h' : IsL ys xs) : ∀ n, dot cs ys n = dotI vs xs n
  | 0 => rfl
  | n + 1 => by rw [dot, dotI, dot_eq h h' n, h.getD, h'.getD]
theorem dotI_neg {vs xs : List Int} : ∀ n, dotI (vs.map (fun v => -v)) xs n = - dotI vs xs n
  | 0 => rfl
  | n + 1 => by
    rw [dotI, dotI, dotI_neg n]
    have : (vs.map (fun v => -v)).getD n 0 = - vs.getD n 0 := by
      rcases Nat.lt_or_ge n vs.length with hn | hn
      · rw [getD_ok (by simpa using hn), getD_ok hn]; simp
      · rw [getD_out (by simpa using hn), getD_out hn]; rfl
    rw [this]; grind
theorem dotI_set {l xs : List Int} {v : Nat} {y : Int} (hv : v < l.length) : ∀ n, dotI (l.set v y) xs n = dotI l xs n + (if v < n then (y - l.getD v 0) * xs.getD v 0 else 0)
  | 0 => by simp [dotI]
  | n + 1 => by
    rw [dotI, dotI, dotI_set hv n]
    rcases Nat.lt_trichotomy v n with h | h | h
    · have : (l.set v y).getD n 0 = l.getD n 0 := by rw [List.getD_eq_getElem?_getD, List.getD_eq_getElem?_getD, List.getElem?_set_ne (by omega)]
      rw [this, if_pos h, if_pos (by omega)]; grind
    · subst h
      have : (l.set v y).getD v 0 = y := by rw [List.getD_eq_getElem?_getD, List.getElem?_set_self hv]; rfl
      rw [this, if_neg (by omega), if_pos (by omega)]; grind
    · have : (l.set v y).getD n 0 = l.getD n 0 := by rw [List.getD_eq_getElem?_getD, List.getD_eq_getElem?_getD, List.getElem?_set_ne (by omega)]
      rw [this, if_neg (by omega), if_neg (by omega)]; grind
theorem dotI_rep {xs : List Int} {m : Nat} : ∀ n, dotI (List.replicate m 0) xs n = 0
  | 0 => rfl
  | n + 1 => by
    rw [dotI, dotI_rep n]
    have : (List.replicate m (0 : Int)).getD n 0 = 0 := by
      rcases Nat.lt_or_ge n m with hn | hn
      · rw [getD_ok (by simpa using hn)]; simp
      · rw [getD_out (by simpa using hn)]
    rw [this]; simp
theorem right_lt {c : Constraint} {n : Int} (h : RightP c n) : ∀ {i k : Nat}, (hik : i < k) → (hk : k < c.Linear.Coefs.length) → (c.Linear.Coefs[i]'(by omega)).Var < c.Linear.Coefs[k].Var := by
  intro i k
  induction k with
  | zero => intro h; omega
  | succ k ih =>
    intro hik hk
    have h1 := (h.1 (k + 1) hk).2.2 (by omega)
    simp only [Nat.add_sub_cancel] at h1
    rcases Nat.lt_or_ge i k with h2 | h2
    · have := ih h2 (by omega); omega
    · obtain rfl : i = k := by omega
      exact h1
theorem right_len {c : Constraint} {n : Int} (h : RightP c n) : (c.Linear.Coefs.length : Int) ≤ n := by
  have key : ∀ k, (hk : k < c.Linear.Coefs.length) → (k : Int) ≤ c.Linear.Coefs[k].Var := by
    intro k
    induction k with
    | zero => intro hk; have := (h.1 0 hk).1; omega
    | succ k ih => intro hk; have := ih (by omega); have := right_lt h (show k < k + 1 by omega) hk; omega
  rcases Nat.eq_zero_or_pos c.Linear.Coefs.length with h0 | h0
  · have := h.2; omega
  · have h1 := key (c.Linear.Coefs.length - 1) (by omega)
    have h2 := (h.1 (c.Linear.Coefs.length - 1) (by omega)).2.1
    omega
theorem vals_zero {c : Constraint} {n : Int} (h : RightP c n) {k : Nat} (hk : k ≤ c.Linear.Coefs.length) {j : Nat} (hj : ∀ i, (hi : i < k) → (c.Linear.Coefs[i]'(by omega)).Var ≠ j) : (vals c n k).getD j 0 = 0 := by
  induction k with
  | zero =>
    simp only [vals, List.take_zero, List.foldl_nil]
    rcases Nat.lt_or_ge j n.toNat with hn | hn
    · rw [getD_ok (by simpa using hn)]; simp
    · rw [getD_out (by simpa using hn)]
  | succ k ih =>
    rw [vals_succ (by omega), setv, List.getD_eq_getElem?_getD, List.getElem?_set_ne]
    · rw [← List.getD_eq_getElem?_getD]
      exact ih (by omega) (fun i hi => hj i (by omega))
    · have h1 := hj k (by omega)
      have h2 := (h.1 k (by omega)).1
      omega
def wsum (c : Constraint) (x : List Int) : Nat → Int
  | 0 => 0
  | k + 1 => wsum c x k + (c.Linear.Coefs.getD k ⟨0, 0⟩).N * x.getD (c.Linear.Coefs.getD k ⟨0, 0⟩).Var.toNat 0
theorem getDc {l : List Coef} {n : Nat} (h : n < l.length) : l.getD n ⟨0, 0⟩ = l[n] := by rw [List.getD_eq_getElem?_getD, List.getElem?_eq_getElem h]; rfl
theorem dot_vals {c : Constraint} {x : List Int} (h : RightP c x.length) : ∀ {k : Nat}, k ≤ c.Linear.Coefs.length → dotI (vals c x.length k) x x.length = wsum c x k := by
  intro k
  induction k with
  | zero => intro _; simp only [vals, List.take_zero, List.foldl_nil]; rw [dotI_rep]; rfl
  | succ k ih =>
    intro hk
    have hv := h.1 k (by omega)
    have hz : (vals c x.length k).getD c.Linear.Coefs[k].Var.toNat 0 = 0 := vals_zero h (by omega) (fun i hi => by have := right_lt h hi (by omega); omega)
    rw [vals_succ (by omega), setv, dotI_set (by rw [vals_len]; omega), ih (by omega), if_pos (by omega), hz, wsum, getDc (by omega)]
    grind
theorem holds_is {q : Ineq} {vs xs : List Int} {values : List Big} {b : Int} (hq : IsI q vs b) (hl : vs.length = xs.length) (hv : IsL values xs) : holdsV q values = decide (dotI vs xs xs.length ≤ b) := by
  unfold holdsV
  rw [dot_eq hq.1 hv, hq.2.bv, hq.1.1, hv.1]
  simp [hl]
theorem lawConstraint_tm {c : Constraint} {x : List Int} (hc : OkC c) (hx : ∀ v ∈ x, -32768 ≤ v ∧ v ≤ 32767) : Tm (fun N => lawConstraint N c x) (fun r => r = true) := by
  unfold lawConstraint
  refine Tm.bind (Q := fun r => r = false → x.length ≤ 6 ∧ RightP c x.length) (Tm.bind awake_tm ?_) ?_
  · rintro _ rfl
    refine Tm.neg (by simp) (Tm.ite (fun h => Tm.pure (fun h => by cases h)) (fun h => Tm.bind (rRight_tm hc.len) ?_))
    intro r hr
    exact Tm.pure (fun h' => ⟨by omega, hr.1 (by simpa using h')⟩)
  intro r hr
  refine Tm.ite (fun h => Tm.bind awake_tm (fun _ h => Tm.pure h)) (fun h => ?_)
  obtain ⟨hl, hR⟩ := hr (by simpa using h)
  have hcl := right_len hR
  refine Tm.bind (rOf_tm hc.const.1 hc.const.2) ?_
  rintro k0 ⟨hk0, hk0l⟩
  refine Tm.bind (Tm.loop (fun s : Big × Int => ∃ k : Nat, s.2 = k ∧ k ≤ c.Linear.Coefs.length ∧ Is s.1 (c.Linear.Const + wsum c x k) ∧ s.1.Digits.length ≤ 4 + k) (fun s => c.Linear.Coefs.length - s.2.toNat) (Q := fun r => Is r (c.Linear.Const + wsum c x c.Linear.Coefs.length) ∧ r.Digits.length ≤ 10) ⟨0, rfl, Nat.zero_le _, by simpa [wsum] using hk0, by dsimp only; omega⟩ ?_) ?_
  · rintro ⟨sum, i⟩ ⟨k, rfl, hk, hs, hsl⟩
    dsimp only [lawConstraint_b1] at *
    refine Tm.ite (fun h1 => ?_) (fun h1 => Tm.pure ?_)
    · have hkl : k < c.Linear.Coefs.length := by omega
      have hv := hR.1 k hkl
      have hN := hc.coef _ (List.getElem_mem hkl)
      refine Tm.step (idx_ok hkl) (Tm.bind (Q := fun r => Is r c.Linear.Coefs[k].N ∧ r.Digits.length ≤ 2) (by unfold lbig; exact Tm.bind (rOf_tm hN.1 hN.2) (fun r h => Tm.pure h)) ?_)
      rintro m ⟨hm, hml⟩
      have hvl : c.Linear.Coefs[k].Var.toNat < x.length := by omega
      refine Tm.step (idx_i (n := c.Linear.Coefs[k].Var.toNat) (by omega) hvl) ?_
      have hxv := hx _ (List.getElem_mem hvl)
      rw [iw_eq (z := x[c.Linear.Coefs[k].Var.toNat]) (by omega) (by omega)]
      refine Tm.bind (Q := fun r => Is r x[c.Linear.Coefs[k].Var.toNat] ∧ r.Digits.length ≤ 2) (by unfold lbig; exact Tm.bind (rOf_tm (by omega) (by omega)) (fun r h => Tm.pure h)) ?_
      rintro y ⟨hy, hyl⟩
      refine Tm.bind (rMul_tm hm.dg.inB hy.dg.inB (by omega) (by omega)) ?_
      rintro p ⟨hp, hpl⟩
      rw [hm.bv, hy.bv] at hp
      refine Tm.bind (rAdd_tm hs.dg.inB hp.dg.inB (by omega) (by omega)) ?_
      rintro a ⟨ha, hal⟩
      rw [hs.bv, hp.bv] at ha
      refine Tm.pure ⟨⟨k + 1, by dsimp only; rw [iw_eq] <;> omega, by omega, ?_, by dsimp only; omega⟩, ?_⟩
      · rw [wsum, getDc hkl, getD_ok hvl, ← Int.add_assoc]; exact ha
      · show c.Linear.Coefs.length - (iw ((k : Int) + 1)).toNat < c.Linear.Coefs.length - ((k : Int)).toNat
        rw [iw_eq] <;> omega
    · obtain rfl : k = c.Linear.Coefs.length := by omega
      exact ⟨hs, by omega⟩
  rintro sum ⟨hs, hsl⟩
  refine Tm.bind (Tm.loop (fun s : List Big × Int => ∃ k : Nat, s.2 = k ∧ k ≤ x.length ∧ IsL s.1 (x.take k)) (fun s => x.length - s.2.toNat) (Q := fun r => IsL r x) ⟨0, rfl, Nat.zero_le _, by simpa using IsL.nil⟩ ?_) ?_
  · rintro ⟨vs, i⟩ ⟨k, rfl, hk, hv⟩
    dsimp only [lawConstraint_b2] at *
    refine Tm.ite (fun h1 => ?_) (fun h1 => Tm.pure ?_)
    · have hkl : k < x.length := by omega
      have hxv := hx _ (List.getElem_mem hkl)
      refine Tm.step (idx_ok hkl) ?_
      rw [iw_eq (z := x[k]) (by omega) (by omega)]
      refine Tm.bind (Q := fun r => Is r x[k]) (by unfold lbig; exact Tm.bind (rOf_tm (by omega) (by omega)) (fun r h => Tm.pure h.1)) ?_
      rintro y hy
      have hvl := hv.1
      rw [List.length_take] at hvl
      refine Tm.step (apnd_ok (by simp only [List.length_cons, List.length_nil]; omega) (by decide)) (Tm.pure ⟨⟨k + 1, by dsimp only; rw [iw_eq] <;> omega, by omega, ?_⟩, ?_⟩)
      · rw [List.take_succ_eq_append_getElem hkl]; exact hv.snoc hy
      · show x.length - (iw ((k : Int) + 1)).toNat < x.length - ((k : Int)).toNat
        rw [iw_eq] <;> omega
    · show IsL vs x
      rwa [List.take_of_length_le (by omega)] at hv
  intro values hvals
  refine Tm.bind (cOf_tm hc) ?_
  intro qs hqs
  have hok := hqs.ok hc
  have hvo : ∀ b ∈ values, OkB 512 b := by
    intro b hb
    obtain ⟨j, hj, rfl⟩ := List.mem_iff_getElem.1 hb
    have h1 := hvals.2 j hj (by rw [← hvals.1]; exact hj)
    have h2 := hx _ (List.getElem_mem (show j < x.length by rw [← hvals.1]; exact hj))
    exact h1.ok (by have := h1.len (k := 2) (by have e : W32 ^ 2 = 18446744073709551616 := (by decide); omega); omega)
  refine Tm.bind (Tm.loop (fun s : Bool × Int => ∃ k : Nat, s.2 = k ∧ k ≤ qs.length ∧ s.1 = (qs.take k).all (fun q => holdsV q values)) (fun s => qs.length - s.2.toNat) (Q := fun r => r = qs.all (fun q => holdsV q values)) ⟨0, rfl, Nat.zero_le _, rfl⟩ ?_) ?_
  · rintro ⟨all, i⟩ ⟨k, rfl, hk, ha⟩
    dsimp only [lawConstraint_b3] at *
    refine Tm.ite (fun h1 => ?_) (fun h1 => Tm.pure ?_)
    · have hkl : k < qs.length := by omega
      have hm : qs.length - (iw ((k : Int) + 1)).toNat < qs.length - ((k : Int)).toNat := by rw [iw_eq] <;> omega
      refine Tm.step (idx_ok hkl) (Tm.ite (fun h2 => Tm.bind (cHolds_tm (K := 512) (by decide) (hok.2 _ (List.getElem_mem hkl)) hvo (by rw [hvals.1]; omega)) ?_) (fun h2 => Tm.pure ⟨⟨k + 1, by dsimp only; rw [iw_eq] <;> omega, by omega, ?_⟩, hm⟩))
      · rintro _ rfl
        refine Tm.pure ⟨⟨k + 1, by dsimp only; rw [iw_eq] <;> omega, by omega, ?_⟩, hm⟩
        rw [List.take_succ_eq_append_getElem hkl, List.all_append, ← ha, h2]; simp
      · rw [List.take_succ_eq_append_getElem hkl, List.all_append, ← ha]
        cases all <;> simp_all
    · show all = _
      rwa [List.take_of_length_le (by omega)] at ha
  rintro _ rfl
  refine Tm.bind (rSign_tm hs.dg.inB (by omega)) ?_
  rintro _ rfl
  rw [hs.bv]
  have hvl : (vals c x.length c.Linear.Coefs.length).length = x.length := by rw [vals_len]; simp
  have hd := dot_vals hR (Nat.le_refl _)
  generalize wsum c x c.Linear.Coefs.length = S at *
  rcases hqs with ⟨h1, _⟩ | ⟨_, q, hq, h2⟩
  · exact absurd hR h1
  have hh := holds_is hq hvl hvals
  rw [hd] at hh
  have hall : qs.all (fun q => holdsV q values) = (decide (S ≤ - c.Linear.Const) && (!c.Equal || decide (-S ≤ c.Linear.Const))) := by
    rcases h2 with ⟨he, rfl⟩ | ⟨he, q', hq', rfl⟩
    · simp [hh, he]
    · have hh' := holds_is hq' (by simpa using hvl) hvals
      rw [dotI_neg, hd] at hh'
      simp [hh, hh', he]
  rw [hall]
  refine Tm.ite (fun h3 => Tm.pure ?_) (fun h3 => Tm.ite (fun h4 => Tm.pure ?_) (fun h4 => Tm.pure ?_))
  · have h3 := sgn_zero.1 h3
    have e1 : S ≤ -c.Linear.Const := by omega
    have e2 : -S ≤ c.Linear.Const := by omega
    simp [e1, e2]
  · have h4 := sgn_neg.1 h4
    have e1 : S ≤ -c.Linear.Const := by omega
    have e2 : ¬ -S ≤ c.Linear.Const := by omega
    simp [e1, e2]
  · have h5 : ¬ (c.Linear.Const + S < 0) := fun e => h4 (sgn_neg.2 e)
    have h6 : ¬ (c.Linear.Const + S = 0) := fun e => h3 (sgn_zero.2 e)
    have e1 : ¬ S ≤ -c.Linear.Const := by omega
    simp [e1]
end Go.D
