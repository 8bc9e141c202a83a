/-
  The laws of chapter 02: Remainder, Of, Normal. Plain theorems.
-/
import Derived.Test.YthmoefciofnmdaaDoorN1
set_option linter.unusedSimpArgs false
set_option linter.unusedVariables false
namespace Go.D
open Go Go.X
theorem fmod_neg_b {a b : Int} (hb : b < 0) : a.fmod b ≤ 0 ∧ b < a.fmod b := by
  have h1 : (-a).fmod (-b) = -(a.fmod b) := Int.neg_fmod_neg _ _
  have h2 := Int.fmod_nonneg_of_pos (-a) (b := -b) (by omega)
  have h3 := Int.fmod_lt_of_pos (-a) (b := -b) (by omega)
  omega
theorem sgn_gt {v : Int} (h : sgn v 0 > 0) : 0 < v := by
  unfold sgn at h; split at h
  · omega
  · split at h <;> omega
theorem sgn_ngt {v : Int} (h0 : v ≠ 0) (h : ¬ sgn v 0 > 0) : v < 0 := by
  unfold sgn at h; split at h
  · omega
  · split at h <;> omega
theorem sgn_nn {v : Int} (h : 0 ≤ v) : sgn v 0 ≥ 0 := by
  unfold sgn; split
  · omega
  · split <;> omega
theorem sgn_np {v : Int} (h : v ≤ 0) : sgn v 0 ≤ 0 := by
  unfold sgn; split
  · omega
  · split <;> omega
theorem lawRemainder_tm {a b : Big} (ha : InB W32 a.Digits) (hb : InB W32 b.Digits) : Tm (fun N => lawRemainder N a b) (fun r => r = true) := by
  unfold lawRemainder
  refine head_tm (by simp) (fun hs => ?_)
  have la : a.Digits.length ≤ 8 := hs a (by simp)
  have lb : b.Digits.length ≤ 8 := hs b (by simp)
  refine cp_tm ⟨ha, la⟩ (by decide) (cp_tm ⟨hb, lb⟩ (by decide) ?_)
  refine Tm.bind (bDivFloor_tm ha hb (by omega) (by omega)) (fun x ⟨hx, l1, l2⟩ => ?_)
  have ho := hx.ok
  have l1 : x.1.Digits.length ≤ 10 := by omega
  have l2 : x.2.1.Digits.length ≤ 9 := by omega
  refine Tm.ite (fun h => ?_) (fun h => ?_)
  · rw [ho] at h
    have h0 : bv b = 0 := by simpa using h
    refine cp_tm ⟨hb, lb⟩ (by decide) (Tm.bind (bSign_tm hb (by omega)) ?_)
    rintro _ rfl
    exact Tm.pure (by rw [h0]; decide)
  · rw [ho] at h
    have h0 : bv b ≠ 0 := by simpa using h
    have hr := hx.rem
    rw [if_neg h0] at hr
    have hq := hx.quo
    refine cp_tm ⟨hq.dg.inB, l1⟩ (by decide) (cp_tm ⟨hb, lb⟩ (by decide) ?_)
    refine Tm.bind (bMul_tm hq.dg.inB hb (by omega) (by omega)) (fun y ⟨hy, l3⟩ => cp_tm ⟨hr.dg.inB, l2⟩ (by decide) ?_)
    refine Tm.bind (bAdd_tm hy.dg.inB hr.dg.inB (by omega) (by omega)) (fun z ⟨hz, l4⟩ => cp_tm ⟨ha, la⟩ (by decide) ?_)
    refine Tm.bind (bNormal_tm ha (by omega)) (fun n ⟨hn, _⟩ => ?_)
    rw [hy.bv, hr.bv, hq.bv, Int.mul_comm, Int.mul_fdiv_add_fmod] at hz
    refine same_tm (K := 40) hz hn (by omega) (by decide) (Tm.neg (by simp) ?_)
    refine cp_tm ⟨hb, lb⟩ (by decide) (Tm.bind (bSign_tm hb (by omega)) ?_)
    rintro _ rfl
    refine Tm.ite (fun hc => ?_) (fun hc => ?_)
    · have hp := sgn_gt hc
      have g1 := Int.fmod_nonneg_of_pos (bv a) hp
      have g2 := Int.fmod_lt_of_pos (bv a) hp
      refine cp_tm ⟨hr.dg.inB, l2⟩ (by decide) (Tm.bind (bSign_tm hr.dg.inB (by omega)) ?_)
      rintro _ rfl
      rw [hr.bv]
      refine Tm.pos (sgn_nn g1) (cp_tm ⟨hr.dg.inB, l2⟩ (by decide) (cp_tm ⟨hb, lb⟩ (by decide) (Tm.bind (bCompare_tm hr.dg.inB hb (by omega) (by omega)) ?_)))
      rintro _ rfl
      rw [hr.bv]
      refine Tm.pure (decide_eq_true ?_)
      unfold sgn; rw [if_pos g2]; decide
    · have hp := sgn_ngt h0 hc
      obtain ⟨g1, g2⟩ := fmod_neg_b (a := bv a) hp
      refine cp_tm ⟨hr.dg.inB, l2⟩ (by decide) (Tm.bind (bSign_tm hr.dg.inB (by omega)) ?_)
      rintro _ rfl
      rw [hr.bv]
      refine Tm.pos (sgn_np g1) (cp_tm ⟨hr.dg.inB, l2⟩ (by decide) (cp_tm ⟨hb, lb⟩ (by decide) (Tm.bind (bCompare_tm hr.dg.inB hb (by omega) (by omega)) ?_)))
      rintro _ rfl
      rw [hr.bv]
      refine Tm.pure (decide_eq_true ?_)
      unfold sgn; rw [if_neg (by omega), if_pos g2]; decide
/-! ## Int64 -/
def in64 (v : Int) : Int × Bool := if -9223372036854775808 ≤ v ∧ v ≤ 9223372036854775807 then (v, true) else (0, false)
theorem bor_lo {x y : Int} (h0 : 0 ≤ x) (h1 : x < 4294967296) (h2 : 0 ≤ y) (h3 : y < 4294967296) : bor .u64 x (bshl .u64 y 32) = x + y * 4294967296 := by
  rw [bshl32 h2 h3]
  obtain ⟨a, rfl⟩ := Int.eq_ofNat_of_zero_le h0
  obtain ⟨b, rfl⟩ := Int.eq_ofNat_of_zero_le h2
  rw [show ((b : Int) * 4294967296) = ((b * 4294967296 : Nat) : Int) by omega, bor_add (n := 32) (u64_nat (by omega)) (u64_nat (by omega)) (by omega) (Nat.dvd_mul_left _ _)]
  omega
theorem two_val {l : List Int} (hl : l.length ≤ 2) : val W32 l = l.getD 0 0 + l.getD 1 0 * 4294967296 := by
  match l, hl with
  | [], _ => rfl
  | [a], _ => simp [val]
  | [a, b], _ => simp only [val, W32, List.getD_cons_zero, List.getD_cons_succ]; omega
theorem iuw {u : Int} (h0 : 0 ≤ u) (h1 : u ≤ 9223372036854775808) : iw (uw (0 - u)) = -u := by
  rw [uw_mod]
  unfold iw
  rw [IntKind.wrap_i64]
  omega
theorem getD_in {l : List Int} (h : InB W32 l) (n : Nat) : 0 ≤ l.getD n 0 ∧ l.getD n 0 < 4294967296 := by
  rcases Nat.lt_or_ge n l.length with h1 | h1
  · rw [show l.getD n 0 = l[n] by simp [h1]]
    exact h _ (List.getElem_mem h1)
  · rw [show l.getD n 0 = 0 by simp [h1]]; decide
theorem bInt64_tm {x : Big} (hx : InB W32 x.Digits) (hl : x.Digits.length ≤ 1000) : Tm (fun N => bInt64 N x) (fun r => r = in64 (bv x)) := by
  unfold bInt64
  refine Tm.bind (bNormal_tm hx (by omega)) (fun y ⟨hy, hyl⟩ => ?_)
  have hval := hy.dg.val
  refine Tm.ite (fun h => Tm.pure ?_) (fun h => ?_)
  · have h1 : ¬ val W32 y.Digits < W32 ^ 2 := fun h2 => by have := nrm_len w32_pos hy.dg.inB hy.dg.nrm h2; omega
    have e : W32 ^ 2 = 18446744073709551616 := by decide
    rw [e] at h1
    unfold in64; rw [if_neg (by omega)]
  · have h2 := two_val (l := y.Digits) (by omega)
    have d0 := getD_in hy.dg.inB 0
    have d1 := getD_in hy.dg.inB 1
    refine Tm.bind (digit_tm hy.dg.inB (i := 0)) ?_
    rintro _ rfl
    refine Tm.bind (digit_tm hy.dg.inB (i := 1)) ?_
    rintro _ rfl
    rw [bor_lo d0.1 d0.2 d1.1 d1.2, ← h2, hval, hy.neg]
    by_cases hv : bv x < 0
    · refine Tm.bind (Q := fun r => r = decide (((bv x).natAbs : Int) ≤ 9223372036854775808)) (Tm.pos (by simp [hv]) (Tm.pure rfl)) ?_
      rintro _ rfl
      refine Tm.ite (fun h3 => Tm.pure ?_) (fun h3 => ?_)
      · have h4 := of_decide_eq_true h3
        rw [iuw (by omega) h4]
        unfold in64; rw [if_pos (by omega)]
        exact Prod.ext (by show -((bv x).natAbs : Int) = bv x; omega) rfl
      · have h4 : ¬ ((bv x).natAbs : Int) ≤ 9223372036854775808 := fun h => h3 (decide_eq_true h)
        refine Tm.bind (Q := (· = false)) (Tm.neg (by simp [hv]) (Tm.pure rfl)) ?_
        rintro _ rfl
        refine Tm.neg (by decide) (Tm.pure ?_)
        unfold in64; rw [if_neg (by omega)]
    · refine Tm.bind (Q := (· = false)) (Tm.neg (by simp [hv]) (Tm.pure rfl)) ?_
      rintro _ rfl
      refine Tm.neg (by decide) ?_
      refine Tm.bind (Q := fun r => r = true ↔ ((bv x).natAbs : Int) < 9223372036854775808) (Tm.pos (by simp only [hv, decide_false, Bool.not_false]) (Tm.pure decide_eq_true_iff)) ?_
      intro r hr
      refine Tm.ite (fun h3 => Tm.pure ?_) (fun h3 => Tm.pure ?_)
      · have h4 := hr.1 h3
        rw [iw_eq (by omega) (by omega)]
        unfold in64; rw [if_pos (by omega)]
        exact Prod.ext (by show ((bv x).natAbs : Int) = bv x; omega) rfl
      · have h4 : ¬ ((bv x).natAbs : Int) < 9223372036854775808 := fun h => h3 (hr.2 h)
        unfold in64; rw [if_neg (by omega)]
theorem lawOf_tm {n : Int} (h1 : -9223372036854775808 ≤ n) (h2 : n ≤ 9223372036854775807) : Tm (fun N => lawOf N n) (fun r => r = true) := by
  unfold lawOf
  refine Tm.bind (bOf_tm h1 h2) (fun x ⟨hx, hl⟩ => cp_tm (K := 2) ⟨hx.dg.inB, hl⟩ (by decide) (Tm.bind (bInt64_tm hx.dg.inB (by omega)) ?_))
  rintro _ rfl
  rw [hx.bv, show in64 n = (n, true) from if_pos ⟨h1, h2⟩]
  refine Tm.bind awake_tm ?_
  rintro _ rfl
  refine Tm.pos rfl (Tm.bind (rOf_tm h1 h2) (fun y ⟨hy, hyl⟩ => same_tm (K := 2) hx hy hl (by decide) (Tm.pos rfl (Tm.pos rfl (Tm.pure rfl)))))
theorem drop_le {l : List Int} (h : InB W16 l) (k : Nat) (hk : k ≤ l.length) : val W16 (l.drop k) ≤ val W16 l := by
  have h1 := val_split (B := W16) (l := l) k hk
  have h2 := val_nonneg (B := W16) (by decide) (h.take k)
  have h3 := val_nonneg (B := W16) (by decide) (h.drop k)
  have h4' : (0 : Int) < W16 ^ k := Int.pow_pos (by decide)
  have h4 : (1 : Int) ≤ W16 ^ k := h4'
  have h5 : 1 * val W16 (l.drop k) ≤ W16 ^ k * val W16 (l.drop k) := Int.mul_le_mul_of_nonneg_right h4 h3
  omega
theorem rInt64_tm {x : Big} (hx : InB W32 x.Digits) (hl : x.Digits.length ≤ 1000) : Tm (fun N => rInt64 N x) (fun r => r = in64 (bv x)) := by
  unfold rInt64
  refine Tm.bind (Q := fun r => r = true ↔ ¬ (-9223372036854775808 ≤ bv x ∧ bv x ≤ 9223372036854775807)) ?_ ?_
  · refine Tm.bind (rOf_tm (by decide) (by decide)) (fun o ⟨ho, hol⟩ => Tm.bind (rCompare_tm hx ho.dg.inB (by omega) (by omega)) ?_)
    rintro _ rfl
    rw [ho.bv]
    refine Tm.ite (fun h => Tm.pure ?_) (fun h => ?_)
    · have : bv x < -9223372036854775808 := by unfold sgn at h; (repeat' split at h) <;> omega
      exact ⟨fun _ => by omega, fun _ => rfl⟩
    · have h1 : -9223372036854775808 ≤ bv x := by unfold sgn at h; (repeat' split at h) <;> omega
      refine Tm.bind (rOf_tm (by decide) (by decide)) (fun o2 ⟨ho2, hol2⟩ => Tm.bind (rCompare_tm hx ho2.dg.inB (by omega) (by omega)) ?_)
      rintro _ rfl
      rw [ho2.bv]
      refine Tm.pure ?_
      rw [decide_eq_true_iff]
      unfold sgn
      (repeat' split) <;> omega
  intro r hr
  refine Tm.ite (fun h => Tm.pure ?_) (fun h => ?_)
  · unfold in64; rw [if_neg (hr.1 h)]
  have hin : -9223372036854775808 ≤ bv x ∧ bv x ≤ 9223372036854775807 := by
    rcases Decidable.em (-9223372036854775808 ≤ bv x ∧ bv x ≤ 9223372036854775807) with h1 | h1
    · exact h1
    · exact absurd (hr.2 h1) h
  refine Tm.bind (halves_tm hx (by omega)) (fun l ⟨hd, hll⟩ => ?_)
  have hv := hd.val
  have hbv : bv x = if x.Negative = true then - val W16 l else val W16 l := by unfold bv; rw [hv]
  refine Tm.bind (Tm.loop (fun s : Int × Int => ∃ k : Nat, k ≤ l.length ∧ s = (if x.Negative = true then - val W16 (l.drop k) else val W16 (l.drop k), (k : Int) - 1)) (fun s => (s.2 + 1).toNat) (Q := fun r => r = bv x) ⟨l.length, Nat.le_refl _, ?_⟩ ?_) ?_
  · rw [iw_eq (by omega) (by omega)]; simp [val]
  · rintro _ ⟨k, hk, rfl⟩
    dsimp only [rInt64_b1]
    refine Tm.ite (fun h => ?_) (fun h => Tm.pure ?_)
    · obtain ⟨j, rfl⟩ : ∃ j, k = j + 1 := ⟨k - 1, by omega⟩
      have hj : j < l.length := by omega
      have e : ((j + 1 : Nat) : Int) - 1 = (j : Int) := by omega
      have hdj : l.drop j = l[j] :: l.drop (j + 1) := List.drop_eq_getElem_cons hj
      have hvj : val W16 (l.drop j) = l[j] + 65536 * val W16 (l.drop (j + 1)) := by rw [hdj]; rfl
      have b1 := drop_le hd.inB j (by omega)
      have b2 := val_nonneg (B := W16) (by decide) (hd.inB.drop (j + 1))
      have b3 := hd.inB _ (List.getElem_mem hj)
      rw [e]
      refine Tm.ite (fun hn => Tm.step (idx_ok hj) (Tm.pure ⟨⟨j, by omega, ?_⟩, ?_⟩)) (fun hn => Tm.step (idx_ok hj) (Tm.pure ⟨⟨j, by omega, ?_⟩, ?_⟩))
      · rw [if_pos hn] at hbv
        rw [if_pos hn, if_pos hn, iw_eq (z := (j : Int) - 1) (by omega) (by omega), iw_eq (z := -val W16 (l.drop (j + 1)) * 65536) (by omega) (by omega), iw_eq (by omega) (by omega), hvj]
        exact Prod.ext (by show -val W16 (l.drop (j + 1)) * 65536 - l[j] = -(l[j] + 65536 * val W16 (l.drop (j + 1))); omega) rfl
      · show (iw ((j : Int) - 1) + 1).toNat < ((j : Int) + 1).toNat
        rw [iw_eq (by omega) (by omega)]; omega
      · rw [if_neg hn] at hbv
        rw [if_neg hn, if_neg hn, iw_eq (z := (j : Int) - 1) (by omega) (by omega), iw_eq (z := val W16 (l.drop (j + 1)) * 65536) (by omega) (by omega), iw_eq (by omega) (by omega), hvj]
        exact Prod.ext (by show val W16 (l.drop (j + 1)) * 65536 + l[j] = l[j] + 65536 * val W16 (l.drop (j + 1)); omega) rfl
      · show (iw ((j : Int) - 1) + 1).toNat < ((j : Int) + 1).toNat
        rw [iw_eq (by omega) (by omega)]; omega
    · obtain rfl : k = 0 := by omega
      show _ = bv x
      rw [hbv, List.drop_zero]
  rintro _ rfl
  refine Tm.pure ?_
  unfold in64; rw [if_pos hin]
theorem lawNormal_tm {x : Big} (hx : InB W32 x.Digits) : Tm (fun N => lawNormal N x) (fun r => r = true) := by
  unfold lawNormal
  refine head_tm (by simp) (fun hs => ?_)
  have la : x.Digits.length ≤ 8 := hs x (by simp)
  refine cp_tm ⟨hx, la⟩ (by decide) (Tm.bind (bInt64_tm hx (by omega)) ?_)
  rintro _ rfl
  refine Tm.bind (rInt64_tm hx (by omega)) ?_
  rintro _ rfl
  refine cp_tm ⟨hx, la⟩ (by decide) (Tm.bind (bNormal_tm hx (by omega)) (fun a ⟨ha, la1⟩ => Tm.bind (rNormal_tm hx (by omega)) (fun b ⟨hb, _⟩ => same_tm (K := 8) ha hb (by omega) (by decide) (Tm.pos rfl ?_))))
  refine cp_tm ⟨hx, la⟩ (by decide) (Tm.bind (bSign_tm hx (by omega)) ?_)
  rintro _ rfl
  refine Tm.bind (rSign_tm hx (by omega)) ?_
  rintro _ rfl
  refine Tm.pos rfl (cp_tm ⟨hx, la⟩ (by decide) (Tm.bind (bNeg_tm hx (by omega)) (fun c ⟨hc, lc⟩ => Tm.bind (rNeg_tm hx (by omega)) (fun d ⟨hd, _⟩ => same_tm (K := 8) hc hd (by omega) (by decide) (Tm.pos rfl (Tm.pos rfl (Tm.pure ?_)))))))
  simp
end Go.D
