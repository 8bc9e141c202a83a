/-
  What bigint's counterparts reckon. Plain theorems.
-/
import Derived.Test.YtakkacdhlocckaaM1
import Derived.Test.YtakkacdhlocckaaPB
namespace Go.D
open Go Go.X
abbrev W32 : Int := 4294967296
theorem w32_pos : (1 : Int) < W32 := by decide
theorem cloneU32_tm {s : List Int} (hl : s.length ≤ 35184372088832) : Tm (fun N => cloneU32 N s) (fun r => r = s) := by
  unfold cloneU32
  exact Tm.step (apnd_ok (by simp only [List.length_nil]; omega) (by decide)) (Tm.pure rfl)
theorem btrim_tm {d : List Int} (hd : InB W32 d) (hl : d.length ≤ 35184372088832) : Tm (fun N => btrim N d) (fun r => Dg W32 r (val W32 d) ∧ r.length ≤ d.length) := by
  unfold btrim
  refine Tm.bind (Q := fun n : Int => ∃ k : Nat, n = k ∧ k ≤ d.length ∧ (∀ j, (hj : j < d.length) → k ≤ j → d[j] = 0) ∧ (k = 0 ∨ ∃ hk : k - 1 < d.length, d[k - 1] ≠ 0))
    (Tm.loop (fun n : Int => ∃ k : Nat, n = k ∧ k ≤ d.length ∧ ∀ j, (hj : j < d.length) → k ≤ j → d[j] = 0) (fun n => n.toNat) ⟨d.length, rfl, Nat.le_refl _, fun j h1 h2 => absurd h1 (by omega)⟩ ?_) ?_
  · rintro _ ⟨k, rfl, hk, h0⟩
    dsimp only [btrim_b1]
    rcases Nat.eq_zero_or_pos k with rfl | hk0
    · refine Tm.bind (Q := (· = false)) (Tm.neg (by omega) (Tm.pure rfl)) ?_
      rintro _ rfl
      exact Tm.neg (by simp) (Tm.pure ⟨0, rfl, hk, h0, .inl rfl⟩)
    · refine Tm.bind (Q := (· = decide (d[k - 1] = 0))) (Tm.pos (by omega) (Tm.step (idx_i (n := k - 1) (by rw [iw_eq] <;> omega) (by omega)) (Tm.pure rfl))) ?_
      rintro _ rfl
      by_cases h : d[k - 1] = 0
      · refine Tm.pos (by simpa using h) (Tm.pure ⟨⟨k - 1, by rw [iw_eq] <;> omega, by omega, fun j h1 h2 => ?_⟩, ?_⟩)
        · rcases Nat.eq_or_lt_of_le h2 with rfl | h3
          · exact h
          · exact h0 j h1 (by omega)
        · show (iw ((k : Int) - 1)).toNat < ((k : Int)).toNat
          rw [iw_eq] <;> omega
      · exact Tm.neg (by simpa using h) (Tm.pure ⟨k, rfl, hk, h0, .inr ⟨by omega, h⟩⟩)
  · rintro _ ⟨k, rfl, hk, h0, h1⟩
    refine Tm.step (cut_i (m := 0) (n := k) rfl rfl (by omega) hk) ?_
    refine Tm.bind (cloneU32_tm (by simp; omega)) ?_
    rintro _ rfl
    refine Tm.pure ⟨by simpa using dg_cut hk hd h0 h1, by simp; omega⟩
def bv (x : Big) : Int := if x.Negative = true then - val W32 x.Digits else val W32 x.Digits
structure Is (x : Big) (v : Int) : Prop where
  dg : Dg W32 x.Digits v.natAbs
  neg : x.Negative = decide (v < 0)
theorem Is.bv {x : Big} {v : Int} (h : Is x v) : bv x = v := by
  unfold D.bv; rw [h.neg, h.dg.val]
  by_cases hv : v < 0
  · simp [hv]; omega
  · simp [hv]; omega
theorem Is.uniq {x y : Big} {v : Int} (h : Is x v) (h' : Is y v) : x = y := by
  have h1 := h.dg.uniq w32_pos h'.dg
  have h2 := h.neg.trans h'.neg.symm
  cases x; cases y; simp_all
theorem bnormal_tm {neg : Bool} {d : List Int} (hd : InB W32 d) (hl : d.length ≤ 35184372088832) : Tm (fun N => bnormal N neg d) (fun r => Is r (if neg = true then - val W32 d else val W32 d) ∧ r.Digits.length ≤ d.length) := by
  unfold bnormal
  refine Tm.bind (btrim_tm hd hl) ?_
  rintro r ⟨hr, hl'⟩
  have h0 := hr.nonneg (by decide)
  refine Tm.ite (fun h => Tm.pure ?_) (fun h => Tm.pure ?_)
  · have he : r = [] := List.length_eq_zero_iff.1 (by omega)
    have hv := (hr.zero (by decide)).1 he
    refine ⟨⟨?_, ?_⟩, by simp⟩
    · simp only [hv]; simp; exact Dg.nil
    · simp [hv]
  · have he : r ≠ [] := fun e => h (by simp [e])
    have hv : val W32 d ≠ 0 := fun e => he ((hr.zero (by decide)).2 e)
    refine ⟨⟨?_, ?_⟩, hl'⟩
    · cases neg <;> simp <;> rw [show ((val W32 d).natAbs : Int) = val W32 d by omega] <;> exact hr
    · cases neg <;> simp <;> omega
theorem bNormal_tm {x : Big} (hd : InB W32 x.Digits) (hl : x.Digits.length ≤ 35184372088832) : Tm (fun N => bNormal N x) (fun r => Is r (bv x) ∧ r.Digits.length ≤ x.Digits.length) := by
  unfold bNormal
  exact Tm.bind (bnormal_tm hd hl) (fun r h => Tm.pure h)
theorem bOf_tm {n : Int} (h1 : -9223372036854775808 ≤ n) (h2 : n ≤ 9223372036854775807) : Tm (fun N => bOf N n) (fun r => Is r n ∧ r.Digits.length ≤ 2) := by
  unfold bOf
  refine Tm.bind (Q := (· = (n.natAbs : Int))) (Tm.ite (fun h => Tm.pure ?_) (fun h => Tm.pure ?_)) ?_
  · rw [uw_mod, uw_mod]; omega
  · rw [uw_mod]; omega
  rintro _ rfl
  have hs : bshr .u64 (n.natAbs : Int) 32 = (n.natAbs : Int) / 4294967296 := by
    unfold bshr; rw [show ((2 : Int) ^ (min (32 : Int).toNat IntKind.u64.bits)) = 4294967296 from rfl, Int.fdiv_eq_ediv_of_nonneg _ (by decide)]
  refine Tm.bind (bnormal_tm (d := [uw32 (n.natAbs : Int), uw32 (bshr .u64 (n.natAbs : Int) 32)]) ?_ (by simp)) (fun r h => Tm.pure ?_)
  · rw [hs, uw32_mod, uw32_mod]
    exact InB.cons (B := 4294967296) (by omega) (InB.cons (by omega) InB.nil)
  · refine ⟨?_, h.2⟩
    have hv : val W32 [uw32 (n.natAbs : Int), uw32 (bshr .u64 (n.natAbs : Int) 32)] = n.natAbs := by
      rw [hs, uw32_mod, uw32_mod]; simp only [val, W32]; omega
    have h := h.1
    rw [hv] at h
    by_cases hn : n < 0
    · simp only [hn, decide_true, if_true] at h
      rwa [show -(n.natAbs : Int) = n by omega] at h
    · simp only [hn, decide_false, Bool.false_eq_true, if_false] at h
      rwa [show (n.natAbs : Int) = n by omega] at h
end Go.D
