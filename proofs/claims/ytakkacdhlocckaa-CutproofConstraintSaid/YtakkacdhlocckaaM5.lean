/-
  Constraints as inequalities: what both programs lay out. Plain theorems.
-/
import Derived.Test.YtakkacdhlocckaaM4
namespace Go.D
open Go Go.X
def RightP (c : Constraint) (n : Int) : Prop := (∀ i, (h : i < c.Linear.Coefs.length) → 0 ≤ c.Linear.Coefs[i].Var ∧ c.Linear.Coefs[i].Var < n ∧ (∀ (_ : 0 < i), (c.Linear.Coefs[i - 1]'(by omega)).Var < c.Linear.Coefs[i].Var)) ∧ 0 ≤ n ∧ n ≤ 512
theorem cvalid_tm {c : Constraint} {n : Int} (hl : c.Linear.Coefs.length ≤ 9223372036854775807) : Tm (fun N => cvalid N c n) (fun r => r = true ↔ RightP c n) := by
  unfold cvalid
  generalize hcs : c.Linear.Coefs = cs at hl
  have hR : RightP c n ↔ ((∀ i, (h : i < cs.length) → 0 ≤ cs[i].Var ∧ cs[i].Var < n ∧ (∀ (_ : 0 < i), (cs[i - 1]'(by omega)).Var < cs[i].Var)) ∧ 0 ≤ n ∧ n ≤ 512) := by subst hcs; rfl
  refine Tm.bind (Tm.loop (fun s : Int × Int => ∃ k : Nat, s.2 = k ∧ k ≤ cs.length ∧ (k = 0 → s.1 = -1) ∧ (∀ h : 0 < k ∧ k - 1 < cs.length, s.1 = cs[k - 1].Var) ∧ ∀ i, (h : i < cs.length) → i < k → 0 ≤ cs[i].Var ∧ cs[i].Var < n ∧ (∀ (_ : 0 < i), (cs[i - 1]'(by omega)).Var < cs[i].Var)) (fun s => cs.length - s.2.toNat)
    (Q := fun r => (r = .inl () ∧ ∀ i, (h : i < cs.length) → 0 ≤ cs[i].Var ∧ cs[i].Var < n ∧ (∀ (_ : 0 < i), (cs[i - 1]'(by omega)).Var < cs[i].Var)) ∨ (r = .inr false ∧ ¬ RightP c n)) ⟨0, rfl, Nat.zero_le _, fun _ => rfl, fun h => absurd h.1 (by omega), fun i _ h => absurd h (by omega)⟩ ?_) ?_
  · rintro ⟨last, i⟩ ⟨k, rfl, hk, h0, h1, hP⟩
    dsimp only [cvalid_b1] at *
    rw [hcs]
    refine Tm.ite (fun h => ?_) (fun h => Tm.pure (.inl ⟨rfl, fun i hi => hP i hi (by omega)⟩))
    have hkl : k < cs.length := by omega
    refine Tm.step (idx_ok hkl) (Tm.bind (Q := (· = decide (cs[k].Var ≤ last ∨ cs[k].Var ≥ n))) (Tm.ite (fun h => Tm.pure ?_) (fun h => Tm.pure ?_)) ?_)
    · simp [h]
    · simp [h]
    rintro _ rfl
    refine Tm.ite (fun h => Tm.pure (.inr ⟨rfl, fun hr => ?_⟩)) (fun h => Tm.pure ⟨⟨k + 1, by dsimp only; rw [iw_eq] <;> omega, by omega, fun h => by omega, fun _ => rfl, fun i hi hik => ?_⟩, ?_⟩)
    · have h := of_decide_eq_true h
      have := (hR.1 hr).1 k hkl
      rcases Nat.eq_zero_or_pos k with h' | h'
      · have := h0 h'; omega
      · have h2 := this.2.2 h'
        have h3 := h1 ⟨h', by omega⟩
        omega
    · have h : ¬ (cs[k].Var ≤ last ∨ cs[k].Var ≥ n) := fun e => h (decide_eq_true e)
      rcases Nat.lt_or_ge i k with h' | h'
      · exact hP i hi h'
      · obtain rfl : i = k := by omega
        rcases Nat.eq_zero_or_pos i with h' | h'
        · have := h0 h'; exact ⟨by omega, by omega, fun e => by omega⟩
        · have h3 := h1 ⟨h', by omega⟩
          have h4 := hP (i - 1) (by omega) (by omega)
          exact ⟨by omega, by omega, fun _ => by omega⟩
    · show cs.length - (iw ((k : Int) + 1)).toNat < cs.length - ((k : Int)).toNat
      rw [iw_eq] <;> omega
  · rintro _ (⟨rfl, h⟩ | ⟨rfl, h⟩)
    · refine Tm.ite (fun h1 => Tm.pure ?_) (fun h1 => Tm.pure ?_)
      · rw [hR]; simp only [decide_eq_true_eq]
        exact ⟨fun h2 => ⟨h, by omega, h2⟩, fun h2 => h2.2.2⟩
      · rw [hR]
        exact ⟨fun h2 => (by cases h2), fun h2 => absurd h2.2.1 (by omega)⟩
    · exact Tm.pure ⟨fun h' => (by cases h'), fun h' => absurd h' h⟩
theorem rRight_tm {c : Constraint} {n : Int} (hl : c.Linear.Coefs.length ≤ 9223372036854775807) : Tm (fun N => rRight N c n) (fun r => r = true ↔ RightP c n) := by
  unfold rRight
  generalize hcs : c.Linear.Coefs = cs at hl
  have hR : RightP c n ↔ ((∀ i, (h : i < cs.length) → 0 ≤ cs[i].Var ∧ cs[i].Var < n ∧ (∀ (_ : 0 < i), (cs[i - 1]'(by omega)).Var < cs[i].Var)) ∧ 0 ≤ n ∧ n ≤ 512) := by subst hcs; rfl
  refine Tm.bind (Tm.loop (fun s : Int => ∃ k : Nat, s = k ∧ k ≤ cs.length ∧ ∀ i, (h : i < cs.length) → i < k → 0 ≤ cs[i].Var ∧ cs[i].Var < n ∧ (∀ (_ : 0 < i), (cs[i - 1]'(by omega)).Var < cs[i].Var)) (fun s => cs.length - s.toNat)
    (Q := fun r => (r = .inl () ∧ ∀ i, (h : i < cs.length) → 0 ≤ cs[i].Var ∧ cs[i].Var < n ∧ (∀ (_ : 0 < i), (cs[i - 1]'(by omega)).Var < cs[i].Var)) ∨ (r = .inr false ∧ ¬ RightP c n)) ⟨0, rfl, Nat.zero_le _, fun i _ h => absurd h (by omega)⟩ ?_) ?_
  · rintro _ ⟨k, rfl, hk, hP⟩
    dsimp only [rRight_b1] at *
    rw [hcs]
    refine Tm.ite (fun h => ?_) (fun h => Tm.pure (.inl ⟨rfl, fun i hi => hP i hi (by omega)⟩))
    have hkl : k < cs.length := by omega
    refine Tm.step (idx_ok hkl) (Tm.bind (Q := fun r => r = true ↔ ¬ (0 ≤ cs[k].Var ∧ cs[k].Var < n ∧ (∀ (_ : 0 < k), (cs[k - 1]'(by omega)).Var < cs[k].Var))) (Tm.ite (fun h => Tm.pure ?_) (fun h => Tm.ite (fun h' => Tm.pure ?_) (fun h' => Tm.ite (fun h2 => ?_) (fun h2 => Tm.pure ?_)))) ?_)
    · exact ⟨fun _ e => by omega, fun _ => rfl⟩
    · exact ⟨fun _ e => by omega, fun _ => rfl⟩
    · refine Tm.step (idx_i (n := k - 1) (by rw [iw_eq] <;> omega) (by omega)) (Tm.pure ?_)
      simp only [decide_eq_true_eq]
      exact ⟨fun e e' => by have := e'.2.2 (by omega); omega, fun e => by
        rcases Int.lt_or_le (cs[k - 1]'(by omega)).Var cs[k].Var with e' | e'
        · exact absurd ⟨by omega, by omega, fun _ => e'⟩ e
        · exact e'⟩
    · exact ⟨fun e => (by cases e), fun e => absurd ⟨by omega, by omega, fun e' => absurd e' (by omega)⟩ e⟩
    intro r hr
    refine Tm.ite (fun h => Tm.pure (.inr ⟨rfl, fun hr' => hr.1 h ((hR.1 hr').1 k hkl)⟩)) (fun hf => Tm.pure ⟨⟨k + 1, by rw [iw_eq] <;> omega, by omega, fun i hi hik => ?_⟩, ?_⟩)
    · rcases Nat.lt_or_ge i k with h' | h'
      · exact hP i hi h'
      · obtain rfl : i = k := by omega
        exact Classical.byContradiction fun e => hf (hr.2 e)
    · show cs.length - (iw ((k : Int) + 1)).toNat < cs.length - ((k : Int)).toNat
      rw [iw_eq] <;> omega
  · rintro _ (⟨rfl, h⟩ | ⟨rfl, h⟩)
    · refine Tm.ite (fun h1 => Tm.pure ?_) (fun h1 => Tm.pure ?_)
      · rw [hR]; simp only [decide_eq_true_eq]
        exact ⟨fun h2 => ⟨h, by omega, h2⟩, fun h2 => h2.2.2⟩
      · rw [hR]
        exact ⟨fun h2 => (by cases h2), fun h2 => absurd h2.2.1 (by omega)⟩
    · exact Tm.pure ⟨fun h' => (by cases h'), fun h' => absurd h' h⟩
def IsL (xs : List Big) (vs : List Int) : Prop := xs.length = vs.length ∧ ∀ j, (h : j < xs.length) → (h' : j < vs.length) → Is xs[j] vs[j]
theorem IsL.nil : IsL [] [] := ⟨rfl, fun j h => absurd h (by simp)⟩
theorem is0 : Is big0 0 := ⟨Dg.nil, rfl⟩
theorem IsL.rep {n : Nat} : IsL (List.replicate n big0) (List.replicate n 0) := ⟨by simp, fun j h h' => by simpa using is0⟩
theorem IsL.set {xs : List Big} {vs : List Int} (h : IsL xs vs) {k : Nat} {x : Big} {v : Int} (hx : Is x v) : IsL (xs.set k x) (vs.set k v) := by
  refine ⟨by simpa using h.1, fun j h1 h2 => ?_⟩
  by_cases hj : k = j
  · subst hj; simpa using hx
  · rw [List.getElem_set_ne hj, List.getElem_set_ne hj]
    exact h.2 j (by simpa using h1) (by simpa using h2)
theorem IsL.snoc {xs : List Big} {vs : List Int} (h : IsL xs vs) {x : Big} {v : Int} (hx : Is x v) : IsL (xs ++ [x]) (vs ++ [v]) := by
  refine ⟨by simp [h.1], fun j h1 h2 => ?_⟩
  rcases Nat.lt_or_ge j xs.length with hj | hj
  · rw [List.getElem_append_left hj, List.getElem_append_left (by rw [← h.1]; exact hj)]
    exact h.2 j hj _
  · simp only [List.length_append, List.length_singleton] at h1 h2
    have hj' : j = xs.length := by omega
    have hj2 : j = vs.length := by rw [← h.1]; exact hj'
    have e1 : (xs ++ [x])[j]? = some x := by rw [hj']; simp
    have e2 : (vs ++ [v])[j]? = some v := by rw [hj2]; simp
    rw [(List.getElem?_eq_some_iff.1 e1).2, (List.getElem?_eq_some_iff.1 e2).2]
    exact hx
theorem Is.len {x : Big} {v : Int} (h : Is x v) {k : Nat} (hv : (v.natAbs : Int) < W32 ^ k) : x.Digits.length ≤ k := nrm_len w32_pos h.dg.inB h.dg.nrm (by rw [h.dg.val]; exact hv)
def IsI (q : Ineq) (vs : List Int) (b : Int) : Prop := IsL q.Coefs vs ∧ Is q.Bound b
def I64 (z : Int) : Prop := -9223372036854775808 ≤ z ∧ z ≤ 9223372036854775807
structure OkC (c : Constraint) : Prop where
  len : c.Linear.Coefs.length ≤ 9223372036854775807
  const : I64 c.Linear.Const
  coef : ∀ k ∈ c.Linear.Coefs, I64 k.N
def setv (l : List Int) (k : Coef) : List Int := l.set k.Var.toNat k.N
def vals (c : Constraint) (n : Int) (k : Nat) : List Int := (c.Linear.Coefs.take k).foldl setv (List.replicate n.toNat 0)
theorem vals_succ {c : Constraint} {n : Int} {k : Nat} (h : k < c.Linear.Coefs.length) : vals c n (k + 1) = setv (vals c n k) c.Linear.Coefs[k] := by
  unfold vals; rw [List.take_succ_eq_append_getElem h, List.foldl_append]; rfl
theorem vals_len {c : Constraint} {n : Int} {k : Nat} : (vals c n k).length = n.toNat := by
  unfold vals
  generalize c.Linear.Coefs.take k = l
  have : ∀ (l : List Coef) (v : List Int), (l.foldl setv v).length = v.length := by
    intro l
    induction l with
    | nil => intro v; rfl
    | cons x l ih => intro v; rw [List.foldl_cons, ih]; simp [setv]
  rw [this]; simp
def OfP (c : Constraint) (n : Int) (r : List Ineq) : Prop :=
  (¬ RightP c n ∧ r = []) ∨ (RightP c n ∧ ∃ q, IsI q (vals c n c.Linear.Coefs.length) (- c.Linear.Const) ∧ ((c.Equal = false ∧ r = [q]) ∨ (c.Equal = true ∧ ∃ q', IsI q' ((vals c n c.Linear.Coefs.length).map (fun v => -v)) c.Linear.Const ∧ r = [q, q'])))
theorem negI64 {z : Int} {x : Big} (h : Is x z) (hz : I64 z) : InB W32 x.Digits ∧ x.Digits.length ≤ 2 := ⟨h.dg.inB, h.len (by unfold I64 at hz; have e : W32 ^ 2 = 18446744073709551616 := (by decide); omega)⟩
theorem negated_tm {l : List Big} {vs : List Int} {bound : Big} {z : Int} (hl : IsL l vs) (hv : ∀ v ∈ vs, I64 v) (hb : Is bound z) (hz : I64 z) (hn : l.length ≤ 512) : Tm (fun N => negated N l bound) (fun r => IsI r (vs.map (fun v => -v)) z) := by
  unfold negated
  refine Tm.bind (bNormal_tm hb.dg.inB (by have := (negI64 hb hz).2; omega)) ?_
  rintro b ⟨hb', -⟩
  rw [hb.bv] at hb'
  refine Tm.bind (Tm.loop (fun s : List Big × Int => ∃ k : Nat, s.2 = k ∧ k ≤ l.length ∧ IsL s.1 ((vs.take k).map (fun v => -v))) (fun s => l.length - s.2.toNat) (Q := fun r => IsL r (vs.map (fun v => -v))) ⟨0, rfl, Nat.zero_le _, by simpa using IsL.nil⟩ ?_) (fun r h => Tm.pure ⟨h, hb'⟩)
  rintro ⟨cs, i⟩ ⟨k, rfl, hk, h⟩
  have hlv := hl.1
  dsimp only [negated_b1] at *
  refine Tm.ite (fun h1 => ?_) (fun h1 => Tm.pure ?_)
  · have hkl : k < l.length := by omega
    have hx := hl.2 k hkl (by omega)
    have hxv := hv _ (List.getElem_mem (show k < vs.length by omega))
    refine Tm.step (idx_ok hkl) (Tm.bind (bNeg_tm hx.dg.inB (by have := (negI64 hx hxv).2; omega)) ?_)
    rintro m ⟨hm, -⟩
    rw [hx.bv] at hm
    have hcl := h.1
    simp only [List.length_map, List.length_take] at hcl
    refine Tm.step (apnd_ok (by simp only [List.length_cons, List.length_nil]; omega) (by decide)) (Tm.pure ⟨⟨k + 1, by dsimp only; rw [iw_eq] <;> omega, by omega, ?_⟩, ?_⟩)
    · rw [List.take_succ_eq_append_getElem (by omega), List.map_append]
      exact h.snoc hm
    · show l.length - (iw ((k : Int) + 1)).toNat < l.length - ((k : Int)).toNat
      rw [iw_eq] <;> omega
  · show IsL cs _
    rwa [List.take_of_length_le (by omega)] at h
theorem vals_I64 {c : Constraint} {n : Int} {k : Nat} (hc : OkC c) : ∀ v ∈ vals c n k, I64 v := by
  induction k with
  | zero =>
    intro v hv
    simp only [vals, List.take_zero, List.foldl_nil] at hv
    rw [(List.mem_replicate.1 hv).2]; unfold I64; omega
  | succ k ih =>
    rcases Nat.lt_or_ge k c.Linear.Coefs.length with h | h
    · rw [vals_succ h]
      intro v hv
      rcases List.mem_or_eq_of_mem_set hv with hv | rfl
      · exact ih v hv
      · exact hc.coef _ (List.getElem_mem h)
    · have e : vals c n (k + 1) = vals c n k := by
        unfold vals; rw [List.take_of_length_le (by omega), List.take_of_length_le h]
      rw [e]; exact ih
theorem cOf_tm {c : Constraint} {n : Int} (hc : OkC c) : Tm (fun N => cOf N c n) (OfP c n) := by
  unfold cOf
  refine Tm.bind (cvalid_tm hc.len) ?_
  intro r hr
  refine Tm.ite (fun h => Tm.pure (.inl ⟨fun e => (by rw [hr.2 e] at h; cases h), rfl⟩)) (fun h => ?_)
  have hR : RightP c n := hr.1 (by simpa using h)
  refine Tm.step (mk1_ok (n := n.toNat) (by have := hR.2; omega) (by have := hR.2; omega) (by decide)) ?_
  have hn : n.toNat ≤ 512 := by have := hR.2; omega
  refine Tm.bind (bOf_tm hc.const.1 hc.const.2) ?_
  rintro k0 ⟨hk0, hk0l⟩
  refine Tm.bind (bNeg_tm hk0.dg.inB (by omega)) ?_
  rintro b ⟨hb, -⟩
  rw [hk0.bv] at hb
  refine Tm.bind (Tm.loop (fun s : List Big × Int => ∃ k : Nat, s.2 = k ∧ k ≤ c.Linear.Coefs.length ∧ IsL s.1 (vals c n k)) (fun s => c.Linear.Coefs.length - s.2.toNat) (Q := fun r => IsL r (vals c n c.Linear.Coefs.length)) ⟨0, rfl, Nat.zero_le _, by simpa [vals] using IsL.rep⟩ ?_) ?_
  · rintro ⟨cs, i⟩ ⟨k, rfl, hk, h⟩
    dsimp only [cOf_b1] at *
    refine Tm.ite (fun h1 => ?_) (fun h1 => Tm.pure ?_)
    · have hkl : k < c.Linear.Coefs.length := by omega
      have hv := hR.1 k hkl
      have hx := hc.coef _ (List.getElem_mem hkl)
      have hcl := h.1
      rw [vals_len] at hcl
      refine Tm.step (idx_ok hkl) (Tm.bind (bOf_tm hx.1 hx.2) ?_)
      rintro m ⟨hm, -⟩
      refine Tm.step (idx_i (n := c.Linear.Coefs[k].Var.toNat) (by omega) (by omega)) (Tm.step (upd1_i (n := c.Linear.Coefs[k].Var.toNat) (by omega) (by omega)) (Tm.pure ⟨⟨k + 1, by have := hc.len; dsimp only; rw [iw_eq] <;> omega, by omega, ?_⟩, ?_⟩))
      · rw [vals_succ hkl]; exact h.set hm
      · show c.Linear.Coefs.length - (iw ((k : Int) + 1)).toNat < c.Linear.Coefs.length - ((k : Int)).toNat
        have := hc.len
        rw [iw_eq] <;> omega
    · obtain rfl : k = c.Linear.Coefs.length := by omega
      exact h
  · rintro cs hcs
    refine Tm.ite (fun h1 => Tm.pure (.inr ⟨hR, _, ⟨hcs, hb⟩, .inl ⟨by simpa using h1, rfl⟩⟩)) (fun h1 => ?_)
    refine Tm.bind (bOf_tm hc.const.1 hc.const.2) ?_
    rintro k1 ⟨hk1, -⟩
    refine Tm.bind (negated_tm hcs (vals_I64 hc) hk1 hc.const (by rw [hcs.1, vals_len]; exact hn)) ?_
    rintro q' hq'
    exact Tm.pure (.inr ⟨hR, _, ⟨hcs, hb⟩, .inr ⟨by simpa using h1, q', hq', rfl⟩⟩)
end Go.D
