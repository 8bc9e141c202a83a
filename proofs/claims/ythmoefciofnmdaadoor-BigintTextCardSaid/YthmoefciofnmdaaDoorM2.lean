/-
  What bigint's counterparts reckon. Plain theorems.
-/
import Derived.Test.YthmoefciofnmdaaDoorM1
import Derived.Test.YthmoefciofnmdaaDoorPB
set_option linter.unusedSimpArgs false
set_option linter.unusedVariables false
namespace Go.D
open Go Go.X
abbrev W32 : Int := 4294967296
theorem w32_pos : (1 : Int) < W32 := by decide
theorem cloneU32_tm {s : List Int} (hl : s.length ≤ 35184372088832) : Tm (fun N => cloneU32 N s) (fun r => r = s) := by
  unfold cloneU32
  exact Tm.step (apnd_ok (by simp only [List.length_nil]; omega) (by decide)) (Tm.pure rfl)
theorem btrim_tm {d : List Int} (hd : InB W32 d) (hl : d.length ≤ 35184372088832) : Tm (fun N => btrim N d) (fun r => Dg W32 r (val W32 d) ∧ r.length ≤ d.length) := by
  unfold btrim
  refine Tm.bind (Q := fun n : Int => ∃ k : Nat, n = k ∧ k ≤ d.length ∧ (∀ j, (hj : j < d.length) → k ≤ j → d[j] = 0) ∧ (k = 0 ∨ ∃ hk : k - 1 < d.length, d[k - 1] ≠ 0))
    (Tm.loop (fun n : Int => ∃ k : Nat, n = k ∧ k ≤ d.length ∧ ∀ j, (hj : j < d.length) → k ≤ j → d[j] = 0) (fun n => n.toNat) ⟨d.length, rfl, Nat.le_refl _, fun j h1 h2 => absurd h1 (by omega)⟩ ?_) ?_
  · rintro _ ⟨k, rfl, hk, h0⟩
    dsimp only [btrim_b1]
    rcases Nat.eq_zero_or_pos k with rfl | hk0
    · refine Tm.bind (Q := (· = false)) (Tm.neg (by omega) (Tm.pure rfl)) ?_
      rintro _ rfl
      exact Tm.neg (by simp) (Tm.pure ⟨0, rfl, hk, h0, .inl rfl⟩)
    · refine Tm.bind (Q := (· = decide (d[k - 1] = 0))) (Tm.pos (by omega) (Tm.step (idx_i (n := k - 1) (by rw [iw_eq] <;> omega) (by omega)) (Tm.pure rfl))) ?_
      rintro _ rfl
      by_cases h : d[k - 1] = 0
      · refine Tm.pos (by simpa using h) (Tm.pure ⟨⟨k - 1, by rw [iw_eq] <;> omega, by omega, fun j h1 h2 => ?_⟩, ?_⟩)
        · rcases Nat.eq_or_lt_of_le h2 with rfl | h3
          · exact h
          · exact h0 j h1 (by omega)
        · show (iw ((k : Int) - 1)).toNat < ((k : Int)).toNat
          rw [iw_eq] <;> omega
      · exact Tm.neg (by simpa using h) (Tm.pure ⟨k, rfl, hk, h0, .inr ⟨by omega, h⟩⟩)
  · rintro _ ⟨k, rfl, hk, h0, h1⟩
    refine Tm.step (cut_i (m := 0) (n := k) rfl rfl (by omega) hk) ?_
    refine Tm.bind (cloneU32_tm (by simp; omega)) ?_
    rintro _ rfl
    refine Tm.pure ⟨by simpa using dg_cut hk hd h0 h1, by simp; omega⟩
def bv (x : Big) : Int := if x.Negative = true then - val W32 x.Digits else val W32 x.Digits
structure Is (x : Big) (v : Int) : Prop where
  dg : Dg W32 x.Digits v.natAbs
  neg : x.Negative = decide (v < 0)
theorem Is.bv {x : Big} {v : Int} (h : Is x v) : bv x = v := by
  unfold D.bv; rw [h.neg, h.dg.val]
  by_cases hv : v < 0
  · simp [hv]; omega
  · simp [hv]; omega
theorem Is.uniq {x y : Big} {v : Int} (h : Is x v) (h' : Is y v) : x = y := by
  have h1 := h.dg.uniq w32_pos h'.dg
  have h2 := h.neg.trans h'.neg.symm
  cases x; cases y; simp_all
theorem bnormal_tm {neg : Bool} {d : List Int} (hd : InB W32 d) (hl : d.length ≤ 35184372088832) : Tm (fun N => bnormal N neg d) (fun r => Is r (if neg = true then - val W32 d else val W32 d) ∧ r.Digits.length ≤ d.length) := by
  unfold bnormal
  refine Tm.bind (btrim_tm hd hl) ?_
  rintro r ⟨hr, hl'⟩
  have h0 := hr.nonneg (by decide)
  refine Tm.ite (fun h => Tm.pure ?_) (fun h => Tm.pure ?_)
  · have he : r = [] := List.length_eq_zero_iff.1 (by omega)
    have hv := (hr.zero (by decide)).1 he
    refine ⟨⟨?_, ?_⟩, by simp⟩
    · simp only [hv]; simp; exact Dg.nil
    · simp [hv]
  · have he : r ≠ [] := fun e => h (by simp [e])
    have hv : val W32 d ≠ 0 := fun e => he ((hr.zero (by decide)).2 e)
    refine ⟨⟨?_, ?_⟩, hl'⟩
    · cases neg <;> simp <;> rw [show ((val W32 d).natAbs : Int) = val W32 d by omega] <;> exact hr
    · cases neg <;> simp <;> omega
theorem bNormal_tm {x : Big} (hd : InB W32 x.Digits) (hl : x.Digits.length ≤ 35184372088832) : Tm (fun N => bNormal N x) (fun r => Is r (bv x) ∧ r.Digits.length ≤ x.Digits.length) := by
  unfold bNormal
  exact Tm.bind (bnormal_tm hd hl) (fun r h => Tm.pure h)
theorem digit_tm {d : List Int} (hd : InB W32 d) {i : Nat} : Tm (fun N => digit N d (i : Int)) (fun r => r = d.getD i 0) := by
  unfold digit
  have h0 := hd.getD (by decide) i
  refine Tm.ite (fun h => ?_) (fun h => Tm.pure ?_)
  · refine Tm.step (idx_ok (by omega)) (Tm.pure ?_)
    rw [List.getD_eq_getElem?_getD, List.getElem?_eq_getElem (by omega)] at *
    simp only [Option.getD_some, W32] at *
    rw [uw_mod]; omega
  · rw [List.getD_eq_getElem?_getD, List.getElem?_eq_none (by omega)]; rfl
theorem bshr32 {x : Int} : bshr .u64 x 32 = x / 4294967296 := by
  unfold bshr; rw [show ((2 : Int) ^ (min (32 : Int).toNat IntKind.u64.bits)) = 4294967296 from rfl, Int.fdiv_eq_ediv_of_nonneg _ (by decide)]
theorem take_set {l : List Int} {n : Nat} {y : Int} (h : n < l.length) : val W32 ((l.set n y).take (n + 1)) = val W32 (l.take n) + W32 ^ n * y := by
  rw [val_take, List.take_set_of_le (Nat.le_refl n), List.getD_eq_getElem?_getD, List.getElem?_set_self h]; rfl
theorem bplus_tm {a b : List Int} (ha : InB W32 a) (hb : InB W32 b) (hl : a.length ≤ 17592186044416) (hl' : b.length ≤ 17592186044416) : Tm (fun N => bplus N a b) (fun r => InB W32 r ∧ val W32 r = val W32 a + val W32 b ∧ r.length = max a.length b.length + 1) := by
  unfold bplus
  have hi : iw (imax (a.length : Int) (b.length : Int) + 1) = ((max a.length b.length + 1 : Nat) : Int) := by
    unfold imax; split <;> rw [iw_eq] <;> omega
  refine Tm.step (mk1_ok hi (by omega) (by decide)) ?_
  generalize hL : max a.length b.length + 1 = L
  refine Tm.bind (Q := fun r => InB W32 r ∧ val W32 r = val W32 a + val W32 b ∧ r.length = L)
    (Tm.loop (fun s : List Int × Int × Int => ∃ n : Nat, s.2.2 = n ∧ n ≤ L ∧ s.1.length = L ∧ InB W32 s.1 ∧ 0 ≤ s.2.1 ∧ s.2.1 ≤ 1 ∧ val W32 (s.1.take n) + W32 ^ n * s.2.1 = val W32 (a.take n) + val W32 (b.take n)) (fun s => L - s.2.2.toNat)
      ⟨0, rfl, Nat.zero_le _, by simp, InB.rep (by decide), by simp, by simp, by simp [val]⟩ ?_) (fun r h => Tm.pure h)
  rintro ⟨out, carry, i⟩ ⟨n, rfl, hn, ho, hB, h0, h1, hv⟩
  dsimp only [bplus_b1] at *
  simp only [List.length_replicate]
  refine Tm.ite (fun h => ?_) (fun h => Tm.pure ?_)
  · refine Tm.bind (digit_tm ha) ?_
    rintro x rfl
    refine Tm.bind (digit_tm hb) ?_
    rintro y rfl
    refine Tm.step (idx_ok (by omega)) ?_
    refine Tm.step (upd1_i rfl (by omega)) (Tm.pure ?_)
    have hx := ha.getD (by decide) n
    have hy := hb.getD (by decide) n
    generalize ex : a.getD n 0 = x at *
    generalize ey : b.getD n 0 = y at *
    have e1 : uw (carry + uw (x + y)) = carry + x + y := by
      simp only [W32] at *; rw [uw_mod, uw_mod]; omega
    rw [e1, bshr32, uw32_mod]
    refine ⟨⟨n + 1, ?_, by omega, by simp; omega, hB.set (by simp only [W32]; omega), ?_, ?_, ?_⟩, ?_⟩
    · show iw ((n : Int) + 1) = _
      rw [iw_eq] <;> omega
    · show 0 ≤ (carry + x + y) / 4294967296
      omega
    · show (carry + x + y) / 4294967296 ≤ 1
      simp only [W32] at *; omega
    · show val W32 ((out.set n ((carry + x + y) % 4294967296)).take (n + 1)) + W32 ^ (n + 1) * ((carry + x + y) / 4294967296) = _
      rw [take_set (by omega), val_take, val_take, ex, ey, Int.pow_succ]
      have := Int.emod_add_mul_ediv (carry + x + y) 4294967296
      have hw : W32 = 4294967296 := rfl
      grind
    · show L - (iw ((n : Int) + 1)).toNat < L - ((n : Int)).toNat
      rw [iw_eq] <;> omega
  · have hnL : n = L := by omega
    subst hnL
    rw [List.take_of_length_le (by omega), List.take_of_length_le (by omega), List.take_of_length_le (by omega)] at hv
    refine ⟨hB, ?_, ho⟩
    show val W32 out = _
    have l1 := val_lt (by decide) ha
    have l2 := val_lt (by decide) hb
    have l3 := val_nonneg (by decide) hB
    have p1 := pow_mono (B := W32) (by decide) (show a.length ≤ n - 1 by omega)
    have p2 := pow_mono (B := W32) (by decide) (show b.length ≤ n - 1 by omega)
    have p3 : W32 ^ n = W32 ^ (n - 1) * W32 := by rw [← Int.pow_succ]; congr 1; omega
    have p4 := pow_pos' (B := W32) (by decide) (n - 1)
    have hc : carry = 0 ∨ carry = 1 := by omega
    rcases hc with rfl | rfl
    · omega
    · simp only [W32] at *; omega
theorem btimes_tm {a b : List Int} (ha : InB W32 a) (hb : InB W32 b) (hl : a.length ≤ 17592186044416) (hl' : b.length ≤ 17592186044416) :
    Tm (fun N => btimes N a b) (fun r => InB W32 r ∧ val W32 r = val W32 a * val W32 b ∧ r.length = a.length + b.length) := by
  unfold btimes
  refine Tm.step (mk1_ok (n := a.length + b.length) (by rw [iw_eq] <;> omega) (by omega) (by decide)) ?_
  refine Tm.bind (Q := fun r => InB W32 r ∧ val W32 r = val W32 a * val W32 b ∧ r.length = a.length + b.length)
    (Tm.loop (fun s : List Int × Int => ∃ n : Nat, s.2 = n ∧ n ≤ a.length ∧ s.1.length = a.length + b.length ∧ InB W32 s.1 ∧ val W32 s.1 = val W32 (a.take n) * val W32 b ∧ ∀ k, n + b.length ≤ k → (hk : k < s.1.length) → s.1[k] = 0) (fun s => a.length - s.2.toNat)
      ⟨0, rfl, Nat.zero_le _, by simp, InB.rep (by decide), by simp [val, val_rep], by simp⟩ ?_) (fun r h => Tm.pure h)
  rintro ⟨out, i⟩ ⟨n, rfl, hn, ho, hB, hv, hz⟩
  dsimp only [btimes_b1] at *
  refine Tm.ite (fun h => ?_) (fun h => Tm.pure ?_)
  · refine Tm.step (idx_ok (by omega)) ?_
    have hx := ha.get (n := n) (by omega)
    have ex : a.getD n 0 = a[n]'(by omega) := by rw [List.getD_eq_getElem?_getD, List.getElem?_eq_getElem (by omega)]; rfl
    generalize a[n]'(by omega) = x at *
    refine Tm.bind (Q := fun r : List Int × Int => InB W32 r.1 ∧ r.1.length = a.length + b.length ∧ 0 ≤ r.2 ∧ r.2 < W32 ∧ val W32 r.1 + W32 ^ (n + b.length) * r.2 = val W32 (a.take n) * val W32 b + W32 ^ n * x * val W32 b ∧ ∀ k, n + b.length ≤ k → (hk : k < r.1.length) → r.1[k] = 0)
      (Tm.loop (fun s : List Int × Int × Int => ∃ m : Nat, s.2.2 = m ∧ m ≤ b.length ∧ s.1.length = a.length + b.length ∧ InB W32 s.1 ∧ 0 ≤ s.2.1 ∧ s.2.1 < W32 ∧ val W32 s.1 + W32 ^ (n + m) * s.2.1 = val W32 (a.take n) * val W32 b + W32 ^ n * x * val W32 (b.take m) ∧ ∀ k, n + b.length ≤ k → (hk : k < s.1.length) → s.1[k] = 0) (fun s => b.length - s.2.2.toNat)
        ⟨0, rfl, Nat.zero_le _, ho, hB, by simp, (by decide : (0 : Int) < W32), by simpa [val] using hv, hz⟩ ?_) ?_
    · rintro ⟨out1, carry, j⟩ ⟨m, rfl, hm, ho1, hB1, c0, c1, hv1, hz1⟩
      dsimp only [btimes_b2] at *
      refine Tm.ite (fun h1 => ?_) (fun h1 => Tm.pure ?_)
      · refine Tm.step (idx_ok (by omega)) ?_
        have hi : iw ((n : Int) + (m : Int)) = ((n + m : Nat) : Int) := by rw [iw_eq] <;> omega
        have hy := hb.get (n := m) (by omega)
        have ey : b.getD m 0 = b[m]'(by omega) := by rw [List.getD_eq_getElem?_getD, List.getElem?_eq_getElem (by omega)]; rfl
        generalize b[m]'(by omega) = y at *
        refine Tm.step (idx_i (n := n + m) hi (by omega)) (Tm.step (idx_i (n := n + m) hi (by omega)) (Tm.step (upd1_i (n := n + m) hi (by omega)) (Tm.pure ?_)))
        have hz' := hB1.get (n := n + m) (by omega)
        have hvs := fun y' => val_set (B := W32) (l := out1) (n := n + m) (y := y') (by omega)
        generalize out1[n + m]'(by omega) = z at *
        have hxy : 0 ≤ x * y ∧ x * y ≤ 4294967295 * 4294967295 := by
          refine ⟨Int.mul_nonneg hx.1 hy.1, ?_⟩
          exact Int.mul_le_mul (by simp only [W32] at hx; omega) (by simp only [W32] at hy; omega) hy.1 (by decide)
        generalize exy : x * y = xy at *
        have e1 : uw (carry + uw (uw (uw x * uw y) + uw z)) = carry + xy + z := by
          simp only [W32] at *
          rw [show uw x = x by rw [uw_mod]; omega, show uw y = y by rw [uw_mod]; omega, exy, uw_mod, uw_mod, uw_mod, uw_mod]; omega
        rw [e1, bshr32, uw32_mod]
        simp only [W32] at hz' c1
        refine ⟨⟨m + 1, ?_, by omega, by simp; omega, hB1.set (by simp only [W32]; omega), ?_, ?_, ?_, ?_⟩, ?_⟩
        · show iw ((m : Int) + 1) = _
          rw [iw_eq] <;> omega
        · show 0 ≤ (carry + xy + z) / 4294967296
          omega
        · show (carry + xy + z) / 4294967296 < W32
          simp only [W32]; omega
        · show val W32 (out1.set (n + m) ((carry + xy + z) % 4294967296)) + W32 ^ (n + (m + 1)) * ((carry + xy + z) / 4294967296) = _
          rw [hvs, val_take, ey, ← Nat.add_assoc, Int.pow_succ]
          have := Int.emod_add_mul_ediv (carry + xy + z) 4294967296
          have hw : W32 = 4294967296 := rfl
          have hp : W32 ^ (n + m) = W32 ^ n * W32 ^ m := Int.pow_add ..
          grind
        · intro k hk hk'
          rw [List.getElem_set_ne (by omega)]
          exact hz1 k hk (by simpa using hk')
        · show b.length - (iw ((m : Int) + 1)).toNat < b.length - ((m : Int)).toNat
          rw [iw_eq] <;> omega
      · have hmL : m = b.length := by omega
        subst hmL
        rw [List.take_of_length_le (Nat.le_refl _)] at hv1
        exact ⟨hB1, ho1, c0, c1, hv1, hz1⟩
    · rintro ⟨out2, carry⟩ ⟨hB2, ho2, c0, c1, hv2, hz2⟩
      dsimp only at *
      have hi : iw ((n : Int) + (b.length : Int)) = ((n + b.length : Nat) : Int) := by rw [iw_eq] <;> omega
      refine Tm.step (idx_i hi (by omega)) (Tm.step (upd1_i hi (by omega)) (Tm.pure ?_))
      have e1 : uw32 carry = carry := by rw [uw32_mod]; simp only [W32] at c1; omega
      rw [e1]
      refine ⟨⟨n + 1, ?_, by omega, by simp; omega, hB2.set ⟨c0, c1⟩, ?_, ?_⟩, ?_⟩
      · show iw ((n : Int) + 1) = _
        rw [iw_eq] <;> omega
      · show val W32 (out2.set (n + b.length) carry) = _
        rw [val_set (by omega), hz2 _ (Nat.le_refl _) (by omega), val_take, ex]
        grind
      · intro k hk hk'
        rw [List.getElem_set_ne (by omega)]
        exact hz2 k (by omega) (by simpa using hk')
      · show a.length - (iw ((n : Int) + 1)).toNat < a.length - ((n : Int)).toNat
        rw [iw_eq] <;> omega
  · have hnL : n = a.length := by omega
    subst hnL
    rw [List.take_of_length_le (Nat.le_refl _)] at hv
    exact ⟨hB, hv, ho⟩
end Go.D
