/-
  Division: quotient and remainder. Plain theorems.
-/
import Derived.Test.YthmoefciofnmdaaDoorM10
set_option linter.unusedSimpArgs false
set_option linter.unusedVariables false
namespace Go.D
open Go Go.X
theorem dvd_emod_of {x : Int} {s : Nat} (hs : s ≤ 31) (z : Int) (h : x = 2 ^ s * z) : x % 4294967296 % 2 ^ s = 0 := by
  have hPQ := pow_dvd32 hs
  rw [← hPQ, Int.emod_emod_of_dvd _ (Int.dvd_mul_right _ _), h, Int.mul_emod_right]
theorem b5_tm {u z : List Int} {n : Int} {s m : Nat} {t : Int} (hn : uw n = s) (hs : s ≤ 31) (hz : z = List.replicate m 0) (huB : InB W32 u) (hu : m < u.length) (hul : u.length ≤ 17592186044416) (hm : 0 < m) (hv : val W32 u < W32 ^ m) (ht : val W32 u = t * 2 ^ s) :
    Tm (fun N => loopM (bdivide_b5 N n u z) N (z, 0)) (fun r => InB W32 r ∧ r.length = m ∧ val W32 r = t) := by
  subst hz
  have hPQ := pow_dvd32 hs
  have hP : (0 : Int) < 2 ^ s := Int.pow_pos (by decide)
  have hQ : (0 : Int) < 2 ^ (32 - s) := Int.pow_pos (by decide)
  have hP31 : (2 : Int) ^ s ≤ 2147483648 := pow_mono (B := 2) (by decide) hs
  have c0 : u.getD 0 0 % 2 ^ s = 0 := by
    have h1 : val W32 u % 4294967296 = u.getD 0 0 := by
      cases u with
      | nil => simp at hu
      | cons x l =>
        have := huB.head
        simp only [val, List.getD_cons_zero]
        rw [show W32 * val W32 l = 4294967296 * val W32 l from rfl, Int.add_mul_emod_self_left]
        simp only [W32] at this; omega
    rw [← h1]; exact dvd_emod_of hs t (by rw [ht, Int.mul_comm])
  refine Tm.loop (fun r : List Int × Int => ∃ j : Nat, r.2 = j ∧ j ≤ m ∧ InB W32 r.1 ∧ r.1.length = m ∧ val W32 (r.1.take j) * 2 ^ s = val W32 (u.take j) + W32 ^ j * (u.getD j 0 % 2 ^ s)) (fun r => m - r.2.toNat)
    ⟨0, rfl, by omega, InB.rep (by decide), by simp, by rw [c0]; simp [val]⟩ ?_
  rintro ⟨r, jj⟩ ⟨j, rfl, hj, hB, hr, hval⟩
  dsimp only [bdivide_b5] at *
  rw [List.length_replicate]
  refine Tm.ite (fun h => ?_) (fun h => Tm.pure ?_)
  · have hj1 : iw ((j : Int) + 1) = ((j + 1 : Nat) : Int) := by rw [iw_eq] <;> omega
    rw [hj1, hn]
    refine Tm.step (idx_g rfl (by omega)) (Tm.step (idx_g rfl (by omega)) (Tm.step (chk_ok (by omega)) (Tm.step (idx_g rfl (by omega)) (Tm.step (upd1_i rfl (by omega)) (Tm.pure ?_)))))
    have hx := huB.getD (B := W32) (by decide) j
    have hy := huB.getD (B := W32) (by decide) (j + 1)
    have hut := val_take (B := W32) (l := u) (n := j)
    have hts := fun y => take_set (l := r) (n := j) (y := y) (by omega)
    generalize u.getD j 0 = x at *
    generalize hY : u.getD (j + 1) 0 = y at *
    simp only [W32] at hx hy
    rw [uw_id hx.1 (by omega), uw_id hy.1 (by omega), bor_hi hy.1 hy.2 hx.1 hx.2]
    have esh : bshr .u64 (y * 4294967296 + x) (s : Int) = (y * 4294967296 + x) / 2 ^ s := by
      unfold bshr
      rw [show min ((s : Int)).toNat IntKind.u64.bits = s by show min _ 64 = s; omega]
      exact Int.fdiv_eq_ediv_of_nonneg _ (Int.le_of_lt hP)
    rw [esh]
    have hx1 := Int.emod_add_mul_ediv x (2 ^ s)
    have hy1 := Int.emod_add_mul_ediv y (2 ^ s)
    have hxm0 := Int.emod_nonneg x (show (2 : Int) ^ s ≠ 0 by omega)
    have hxm1 := Int.emod_lt_of_pos x hP
    have hym0 := Int.emod_nonneg y (show (2 : Int) ^ s ≠ 0 by omega)
    have hym1 := Int.emod_lt_of_pos y hP
    have hxd1 : x / 2 ^ s < 2 ^ (32 - s) := Int.ediv_lt_of_lt_mul hP (by rw [Int.mul_comm, hPQ]; omega)
    have hxd0 : 0 ≤ x / 2 ^ s := Int.ediv_nonneg hx.1 (by omega)
    have e1 : (y * 4294967296 + x) / 2 ^ s = y * 2 ^ (32 - s) + x / 2 ^ s := by
      rw [← hPQ, show y * (2 ^ s * 2 ^ (32 - s)) + x = x + 2 ^ s * (y * 2 ^ (32 - s)) by grind, Int.add_mul_ediv_left _ _ (by omega), Int.add_comm]
    have e2 : uw32 (y * 2 ^ (32 - s) + x / 2 ^ s) = (y % 2 ^ s) * 2 ^ (32 - s) + x / 2 ^ s := by
      have hle : (y % 2 ^ s) * 2 ^ (32 - s) + 2 ^ (32 - s) ≤ 4294967296 := by
        have := Int.mul_le_mul_of_nonneg_right (show y % 2 ^ s + 1 ≤ 2 ^ s by omega) (show (0 : Int) ≤ 2 ^ (32 - s) by omega)
        rw [hPQ] at this
        have e : (y % 2 ^ s + 1) * 2 ^ (32 - s) = (y % 2 ^ s) * 2 ^ (32 - s) + 2 ^ (32 - s) := by grind
        omega
      have hge : 0 ≤ (y % 2 ^ s) * 2 ^ (32 - s) := Int.mul_nonneg hym0 (by omega)
      have e3 : y * 2 ^ (32 - s) + x / 2 ^ s = (y % 2 ^ s) * 2 ^ (32 - s) + x / 2 ^ s + 4294967296 * (y / 2 ^ s) := by
        have e4 : 4294967296 * (y / 2 ^ s) = 2 ^ s * 2 ^ (32 - s) * (y / 2 ^ s) := by rw [hPQ]
        have e5 : y * 2 ^ (32 - s) = (y % 2 ^ s + 2 ^ s * (y / 2 ^ s)) * 2 ^ (32 - s) := by rw [hy1]
        rw [e4, e5]; grind
      rw [uw32_mod, e3, Int.add_mul_emod_self_left, Int.emod_eq_of_lt (by omega) (by omega)]
    rw [e1, e2]
    have hdig : 0 ≤ (y % 2 ^ s) * 2 ^ (32 - s) + x / 2 ^ s ∧ (y % 2 ^ s) * 2 ^ (32 - s) + x / 2 ^ s < 4294967296 := by
      rw [← e2, uw32_mod]; omega
    refine ⟨⟨j + 1, rfl, by omega, hB.set (by simp only [W32]; exact hdig), by simp; omega, ?_⟩, ?_⟩
    · show val W32 ((r.set j _).take (j + 1)) * 2 ^ s = val W32 (u.take (j + 1)) + W32 ^ (j + 1) * (u.getD (j + 1) 0 % 2 ^ s)
      rw [hY]
      rw [hts, hut, Int.pow_succ]
      have hw : W32 = 2 ^ s * 2 ^ (32 - s) := hPQ.symm
      have e6 : W32 ^ j * W32 * (y % 2 ^ s) = W32 ^ j * (2 ^ s * 2 ^ (32 - s)) * (y % 2 ^ s) := by rw [← hw]
      rw [e6]
      have e7 : W32 ^ j * x = W32 ^ j * (x % 2 ^ s + 2 ^ s * (x / 2 ^ s)) := by rw [hx1]
      rw [e7]
      generalize W32 ^ j = P at *
      generalize val W32 (r.take j) = a1 at *
      generalize val W32 (u.take j) = a2 at *
      have : (a1 + P * ((y % 2 ^ s) * 2 ^ (32 - s) + x / 2 ^ s)) * 2 ^ s = a1 * 2 ^ s + P * ((y % 2 ^ s) * 2 ^ (32 - s) + x / 2 ^ s) * 2 ^ s := by grind
      rw [this, hval]
      grind
    · show m - (((j + 1 : Nat) : Int)).toNat < m - ((j : Int)).toNat
      omega
  · obtain rfl : j = m := by omega
    rw [take_all (by omega), hi0 huB hv j (Nat.le_refl _)] at hval
    have h1 := val_cut (B := W32) (l := u) (n := j) (by omega) (fun k hk hmk => by have := hi0 huB hv k hmk; rwa [getD_ok hk] at this)
    rw [h1, ht] at hval
    simp only [Int.zero_emod, Int.mul_zero, Int.add_zero] at hval
    exact ⟨hB, hr, Int.eq_of_mul_eq_mul_right (by omega) hval⟩
theorem nrm_last {l : List Int} (h : InB W32 l) (hn : Nrm l) (hl : 0 < l.length) : 0 < l.getD (l.length - 1) 0 := by
  have h1 := h.getD (B := W32) (by decide) (l.length - 1)
  have h2 : l.getD (l.length - 1) 0 ≠ 0 := by
    intro e
    apply hn
    rw [List.getLast?_eq_getElem?, List.getElem?_eq_getElem (by omega)]
    rw [getD_ok (by omega)] at e
    rw [e]
  omega
theorem bdivide_tm {a b : List Int} (ha : InB W32 a) (hb : InB W32 b) (na : Nrm a) (nb : Nrm b) (hb0 : 0 < b.length) (hl : a.length ≤ 8796093022208) (hl' : b.length ≤ 8796093022208) :
    Tm (fun N => bdivide N a b) (fun r => Dg W32 r.1 (val W32 a / val W32 b) ∧ Dg W32 r.2 (val W32 a % val W32 b) ∧ r.1.length ≤ a.length ∧ r.2.length ≤ a.length + 1) := by
  unfold bdivide
  have hA0 := val_nonneg (B := W32) (by decide) ha
  have hB0 := nrm_pos (B := W32) (by decide) hb nb (by intro e; rw [e] at hb0; simp at hb0)
  refine Tm.bind (bcompare_tm ha hb na nb (by omega) (by omega)) ?_
  rintro _ rfl
  refine Tm.ite (fun h => ?_) (fun h => ?_)
  · have hlt : val W32 a < val W32 b := by revert h; unfold sgn; split <;> (try split) <;> omega
    refine Tm.bind (btrim_tm ha (by omega)) ?_
    rintro r ⟨hr, hrl⟩
    refine Tm.pure ⟨?_, ?_, by simp, by dsimp only; omega⟩
    · rw [Int.ediv_eq_zero_of_lt hA0 hlt]; exact Dg.nil
    · rw [Int.emod_eq_of_lt hA0 hlt]; exact hr
  · have hge : val W32 b ≤ val W32 a := by revert h; unfold sgn; split <;> (try split) <;> omega
    have hle : b.length ≤ a.length := by
      rcases Nat.lt_or_ge a.length b.length with h' | h'
      · have := len_cmp w32_pos ha hb nb h'; omega
      · exact h'
    have hlast := nrm_last hb nb hb0
    have hlast' := hb.getD (B := W32) (by decide) (b.length - 1)
    refine Tm.ite (fun h1 => ?_) (fun h1 => ?_)
    · have hb1 : b.length = 1 := by omega
      refine Tm.step (idx_g (n := 0) rfl (by omega)) ?_
      have hbv : val W32 b = b.getD 0 0 := by
        match b, hb1 with
        | [x], _ => simp [val]
      rw [hb1] at hlast hlast'
      simp only [Nat.sub_self] at hlast hlast'
      refine Tm.bind (bshort_tm ha hlast hlast'.2 (by omega)) ?_
      rintro ⟨q, r⟩ ⟨hq, hqv, hrv, hql⟩
      dsimp only at *
      refine Tm.bind (btrim_tm hq (by omega)) ?_
      rintro q' ⟨hq', hql'⟩
      have hr0 := Int.emod_nonneg (val W32 a) (show b.getD 0 0 ≠ 0 by omega)
      have hr1 := Int.emod_lt_of_pos (val W32 a) hlast
      refine Tm.bind (btrim_tm (d := [r]) (InB.cons (by rw [hrv]; omega) InB.nil) (by simp)) ?_
      rintro r' ⟨hr', hrl'⟩
      refine Tm.pure ⟨?_, ?_, by dsimp only; omega, by simp at hrl'; dsimp only; omega⟩
      · rw [hbv, ← hqv]; exact hq'
      · rw [hbv, ← hrv]; simpa [val] using hr'
    · have hm : 2 ≤ b.length := by omega
      generalize hmm : b.length = m at *
      have hbm : iw ((m : Int) - 1) = ((m - 1 : Nat) : Int) := by rw [iw_eq] <;> omega
      rw [hbm]
      refine Tm.step (idx_g rfl (by omega)) ?_
      generalize hx : b.getD (m - 1) 0 = x at *
      refine Tm.bind (lz32_tm hlast hlast'.2) ?_
      rintro _ ⟨s, rfl, hs, s1, s2⟩
      have eus : uw (s : Int) = s := uw_id (by omega) (by omega)
      refine Tm.bind (bshift_tm eus hs ha (by omega)) ?_
      rintro u ⟨huB, huv, hul⟩
      refine Tm.bind (bshift_tm eus hs hb (by omega)) ?_
      rintro v0 ⟨hvB0, hvv0, hvl0⟩
      refine Tm.step (cut_i (m := 0) (n := m) rfl rfl (by omega) (by omega)) ?_
      simp only [List.drop_zero]
      have hPQ := pow_dvd32 hs
      have hP : (0 : Int) < 2 ^ s := Int.pow_pos (by decide)
      have hQ : (0 : Int) < 2 ^ (32 - s) := Int.pow_pos (by decide)
      have hP31 : (2 : Int) ^ s ≤ 2147483648 := pow_mono (B := 2) (by decide) hs
      have hbt : val W32 b = val W32 (b.take (m - 1)) + W32 ^ (m - 1) * x := by
        have := val_take (B := W32) (l := b) (n := m - 1)
        rwa [take_all (by omega), hx] at this
      have hbl := val_lt (B := W32) (by decide) (hb.take (m - 1))
      rw [List.length_take, Nat.min_eq_left (by omega)] at hbl
      have hbl0 := val_nonneg (B := W32) (by decide) (hb.take (m - 1))
      have pm := pow_pos' (B := W32) (by decide) (m - 1)
      have pm1 : W32 ^ m = W32 ^ (m - 1) * W32 := by rw [← Int.pow_succ]; congr 1; omega
      have hx32 : (x + 1) * 2 ^ s ≤ 4294967296 := by
        have h1 : x * 2 ^ s < 2 ^ (32 - s) * 2 ^ s := by rw [Int.mul_comm (2 ^ (32 - s)), hPQ]; exact s2
        have h2 := Int.lt_of_mul_lt_mul_right h1 (by omega)
        have h3 := Int.mul_le_mul_of_nonneg_right (show x + 1 ≤ 2 ^ (32 - s) by omega) (show (0 : Int) ≤ 2 ^ s by omega)
        rw [Int.mul_comm (2 ^ (32 - s)), hPQ] at h3
        exact h3
      have hv0m : val W32 v0 < W32 ^ m := by
        have h1 : val W32 b < W32 ^ (m - 1) * (x + 1) := by rw [Int.mul_add]; omega
        have h2 := Int.mul_lt_mul_of_pos_right h1 hP
        have h3 := Int.mul_le_mul_of_nonneg_left hx32 (show 0 ≤ W32 ^ (m - 1) by omega)
        have e : W32 ^ (m - 1) * (x + 1) * 2 ^ s = W32 ^ (m - 1) * ((x + 1) * 2 ^ s) := by grind
        rw [hvv0, pm1]
        simp only [W32] at *; omega
      have hvv : val W32 (v0.take m) = val W32 b * 2 ^ s := by
        rw [← hvv0]
        exact val_cut (by omega) (fun k hk hmk => by have := hi0 hvB0 hv0m k hmk; rwa [getD_ok hk] at this)
      have hvl : (v0.take m).length = m := by simp; omega
      have hvB := hvB0.take m
      generalize v0.take m = v at *
      have hvge : 2147483648 * W32 ^ (m - 1) ≤ val W32 v := by
        rw [hvv]
        have h1 := Int.mul_le_mul_of_nonneg_right (show W32 ^ (m - 1) * x ≤ val W32 b by omega) (show (0 : Int) ≤ 2 ^ s by omega)
        have h2 := Int.mul_le_mul_of_nonneg_left s1 (show 0 ≤ W32 ^ (m - 1) by omega)
        have e : W32 ^ (m - 1) * x * 2 ^ s = W32 ^ (m - 1) * (x * 2 ^ s) := by grind
        rw [Int.mul_comm 2147483648]; omega
      have hv1 : 0 < v.getD (m - 1) 0 := by
        have h1 : val W32 v = val W32 (v.take (m - 1)) + W32 ^ (m - 1) * v.getD (m - 1) 0 := by
          have := val_take (B := W32) (l := v) (n := m - 1)
          rwa [take_all (by omega)] at this
        have h2 := val_lt (B := W32) (by decide) (hvB.take (m - 1))
        rw [List.length_take, Nat.min_eq_left (by omega)] at h2
        have h3 := hvB.getD (B := W32) (by decide) (m - 1)
        rcases Int.lt_or_le 0 (v.getD (m - 1) 0) with h4 | h4
        · exact h4
        · have h5 : v.getD (m - 1) 0 = 0 := by omega
          rw [h5] at h1
          omega
      refine Tm.step (mk1_ok (n := a.length + 1 - m) (by rw [hul, iw_eq] <;> omega) (by omega) (by decide)) ?_
      have hul2 : u.length = (List.replicate (a.length + 1 - m) (0 : Int)).length + m := by simp; omega
      refine Tm.bind (b1_tm (b := b) (v := v) (u := u) (q := List.replicate (a.length + 1 - m) 0) (m := m) hmm hm hvl hvB huB (InB.rep (by decide)) hul2 (by omega) hv1 ?_) ?_
      · have h1 := val_split (B := W32) (l := u) (List.replicate (a.length + 1 - m) (0 : Int)).length (by omega)
        rw [List.length_replicate] at h1 ⊢
        have h2 := val_nonneg (B := W32) (by decide) (huB.take (a.length + 1 - m))
        have h3 := Int.mul_lt_mul_of_pos_right (val_lt (B := W32) (by decide) ha) hP
        have p1 : W32 ^ a.length = W32 ^ (a.length + 1 - m) * W32 ^ (m - 1) := by rw [← Int.pow_add]; congr 1; omega
        have h4 : W32 ^ (a.length + 1 - m) * val W32 (u.drop (a.length + 1 - m)) < W32 ^ (a.length + 1 - m) * (W32 ^ (m - 1) * 2 ^ s) := by
          rw [← Int.mul_assoc, ← p1]; omega
        have h5 := Int.lt_of_mul_lt_mul_left h4 (by have := pow_pos' (B := W32) (by decide) (a.length + 1 - m); omega)
        have h6 := Int.mul_le_mul_of_nonneg_left hP31 (show 0 ≤ W32 ^ (m - 1) by omega)
        rw [Int.mul_comm 2147483648] at hvge
        omega
      rintro ⟨u', q⟩ ⟨hu'B, hu'l, hqB, hql, hAv, hlt⟩
      dsimp only at *
      refine Tm.step (mk1_ok (n := m) rfl (by omega) (by decide)) ?_
      have hu0 := val_nonneg (B := W32) (by decide) hu'B
      have ht : val W32 u' = (val W32 a - val W32 b * val W32 q) * 2 ^ s := by
        rw [huv, hvv] at hAv
        have e : (val W32 a - val W32 b * val W32 q) * 2 ^ s = val W32 a * 2 ^ s - val W32 b * 2 ^ s * val W32 q := by grind
        omega
      have hr0 : 0 ≤ val W32 a - val W32 b * val W32 q := by
        rcases Int.lt_or_le (val W32 a - val W32 b * val W32 q) 0 with h1 | h1
        · have := Int.mul_le_mul_of_nonneg_right (show val W32 a - val W32 b * val W32 q ≤ -1 by omega) (show (0 : Int) ≤ 2 ^ s by omega)
          omega
        · exact h1
      have hr1 : val W32 a - val W32 b * val W32 q < val W32 b := by
        rw [ht, hvv] at hlt
        exact Int.lt_of_mul_lt_mul_right hlt (by omega)
      refine Tm.bind (b5_tm (u := u') (n := (s : Int)) (s := s) (m := m) eus hs rfl hu'B (by omega) (by omega) (by omega) (by have := val_lt (B := W32) (by decide) hvB; rw [hvl] at this; omega) ht) ?_
      rintro r ⟨hrB, hrl, hrv⟩
      refine Tm.bind (btrim_tm hqB (by rw [hql]; simp; omega)) ?_
      rintro q' ⟨hq', hql'⟩
      refine Tm.bind (btrim_tm hrB (by omega)) ?_
      rintro r' ⟨hr', hrl'⟩
      have hdm := (Int.ediv_emod_unique (a := val W32 a) (b := val W32 b) (r := val W32 a - val W32 b * val W32 q) (q := val W32 q) hB0).2 ⟨by omega, hr0, hr1⟩
      rw [List.length_replicate] at hql
      refine Tm.pure ⟨?_, ?_, by dsimp only; omega, by dsimp only; omega⟩
      · rw [hdm.1]; exact hq'
      · rw [hdm.2, ← hrv]; exact hr'
structure DivP (a b : Int) (r : Big × Big × Bool) : Prop where
  ok : r.2.2 = decide (b ≠ 0)
  quo : Is r.1 (a.fdiv b)
  rem : Is r.2.1 (if b = 0 then 0 else a.fmod b)
theorem dv_same {x y : Int} (hx : 0 ≤ x) (hy : 0 < y) : (-x).fdiv (-y) = x / y ∧ (-x).fmod (-y) = -(x % y) := by
  have h1 : (-x).fdiv (-y) = x.fdiv y := Int.neg_fdiv_neg _ _
  rw [h1, Int.fdiv_eq_ediv_of_nonneg _ (by omega)]
  refine ⟨rfl, ?_⟩
  have h2 := Int.mul_fdiv_add_fmod (-x) (-y)
  rw [h1, Int.fdiv_eq_ediv_of_nonneg _ (by omega)] at h2
  have h3 := Int.emod_add_mul_ediv x y
  have e : -y * (x / y) = -(y * (x / y)) := by grind
  omega
theorem dv_diff {x y : Int} (hy : 0 < y) : (-x).fdiv y = (if x % y = 0 then -(x / y) else -(x / y + 1)) ∧ (-x).fmod y = (if x % y = 0 then 0 else y - x % y) := by
  rw [Int.fdiv_eq_ediv_of_nonneg _ (by omega), Int.fmod_eq_emod_of_nonneg _ (by omega)]
  have h3 := Int.emod_add_mul_ediv x y
  have h4 := Int.emod_nonneg x (show y ≠ 0 by omega)
  have h5 := Int.emod_lt_of_pos x hy
  split
  · rename_i h
    have := (Int.ediv_emod_unique (a := -x) (b := y) (r := 0) (q := -(x / y)) hy).2 ⟨by have e : y * -(x / y) = -(y * (x / y)) := (by grind); omega, by omega, by omega⟩
    exact this
  · have := (Int.ediv_emod_unique (a := -x) (b := y) (r := y - x % y) (q := -(x / y + 1)) hy).2 ⟨by have e : y * -(x / y + 1) = -(y * (x / y)) - y := (by grind); omega, by omega, by omega⟩
    exact this
theorem dv_neg {x y : Int} : x.fdiv (-y) = (-x).fdiv y ∧ x.fmod (-y) = -((-x).fmod y) := by
  have h1 : x.fdiv (-y) = (-x).fdiv y := by rw [← Int.neg_fdiv_neg x, Int.neg_neg]
  refine ⟨h1, ?_⟩
  have h2 := Int.mul_fdiv_add_fmod x (-y)
  have h3 := Int.mul_fdiv_add_fmod (-x) y
  rw [h1] at h2
  have e : -y * (-x).fdiv y = -(y * (-x).fdiv y) := by grind
  omega
theorem inB1 : InB W32 [1] := InB.cons (by decide) InB.nil
theorem bDivFloor_tm {a b : Big} (ha : InB W32 a.Digits) (hb : InB W32 b.Digits) (hl : a.Digits.length ≤ 4398046511104) (hl' : b.Digits.length ≤ 4398046511104) :
    Tm (fun N => bDivFloor N a b) (fun r => DivP (bv a) (bv b) r ∧ r.1.Digits.length ≤ a.Digits.length + 2 ∧ r.2.1.Digits.length ≤ max (a.Digits.length + 1) b.Digits.length) := by
  unfold bDivFloor
  refine Tm.bind (bNormal_tm ha (by omega)) ?_
  rintro x ⟨hx, hxl⟩
  refine Tm.bind (bNormal_tm hb (by omega)) ?_
  rintro y ⟨hy, hyl⟩
  have hz := hy.dg.zero (by decide)
  refine Tm.ite (fun h => Tm.pure ?_) (fun h => ?_)
  · have h0 : bv b = 0 := by have := hz.1 (List.length_eq_zero_iff.1 (by omega)); omega
    refine ⟨⟨by simp [h0], ?_, ?_⟩, by simp, by simp⟩
    · rw [h0, Int.fdiv_zero]; exact ⟨Dg.nil, rfl⟩
    · rw [if_pos h0]; exact ⟨Dg.nil, rfl⟩
  · have h0 : bv b ≠ 0 := fun e => h (by rw [hz.2 (by omega)]; rfl)
    have hyl0 : 0 < y.Digits.length := by omega
    have vx := hx.val_pos
    have vy := hy.val_pos
    have n1 := hx.neg
    have n2 := hy.neg
    have X0 := val_nonneg (B := W32) (by decide) hx.dg.inB
    refine Tm.bind (bdivide_tm hx.dg.inB hy.dg.inB hx.dg.nrm hy.dg.nrm hyl0 (by omega) (by omega)) ?_
    rintro ⟨q, r⟩ ⟨hq, hr, hql, hrl⟩
    dsimp only at *
    generalize hX : val W32 x.Digits = X at *
    generalize hY : val W32 y.Digits = Y at *
    have Y0 : 0 < Y := by rw [vy]; split <;> omega
    have hr0 := Int.emod_nonneg X (show Y ≠ 0 by omega)
    have hr1 := Int.emod_lt_of_pos X Y0
    have hq0 := Int.ediv_nonneg X0 (show 0 ≤ Y by omega)
    have hrz := hr.zero (by decide)
    refine Tm.ite (fun hs => ?_) (fun hs => ?_)
    · 
      have hab : (bv a).fdiv (bv b) = (-X).fdiv Y ∧ (bv a).fmod (bv b) = if y.Negative = true then -((-X).fmod Y) else (-X).fmod Y := by
        have hs' : ¬ x.Negative = y.Negative := by simpa using hs
        by_cases p : bv a < 0 <;> by_cases p' : bv b < 0 <;> simp only [p, p', decide_true, decide_false, if_true, if_false] at n1 n2 vx vy
        · rw [n1, n2] at hs'; exact absurd rfl hs'
        · rw [n2, show bv a = -X by omega, show bv b = Y by omega]; simp
        · rw [n2, show bv a = X by omega, show bv b = -Y by omega]; simpa using dv_neg
        · rw [n1, n2] at hs'; exact absurd rfl hs'
      have hdd := dv_diff (x := X) Y0
      refine Tm.bind (Q := fun t : List Int × List Int => InB W32 t.1 ∧ InB W32 t.2 ∧ -(val W32 t.1) = (-X).fdiv Y ∧ val W32 t.2 = (-X).fmod Y ∧ t.1.length ≤ x.Digits.length + 2 ∧ t.2.length ≤ max (x.Digits.length + 1) y.Digits.length) (Tm.ite (fun hrp => ?_) (fun hrp => Tm.pure ?_)) ?_
      · have hrne : X % Y ≠ 0 := fun e => by have := hrz.2 e; rw [this] at hrp; simp at hrp
        rw [if_neg hrne, if_neg hrne] at hdd
        refine Tm.bind (bplus_tm hq.inB inB1 (by omega) (by simp)) ?_
        rintro q1 ⟨hq1, hq1v, hq1l⟩
        have hle : r.length ≤ y.Digits.length := by
          rcases Nat.lt_or_ge y.Digits.length r.length with h' | h'
          · have := len_cmp w32_pos hy.dg.inB hr.inB hr.nrm h'; rw [hY, hr.val] at this; omega
          · exact h'
        refine Tm.bind (bminus_tm hy.dg.inB hr.inB (by omega) hle (by rw [hY, hr.val]; omega)) ?_
        rintro r1 ⟨hr1B, hr1v, hr1l⟩
        refine Tm.pure ⟨hq1, hr1B, ?_, ?_, ?_, by dsimp only; omega⟩
        · rw [hdd.1, hq1v, hq.val]; simp [val]
        · rw [hdd.2, hr1v, hY, hr.val]
        · simp only [List.length_cons, List.length_nil] at hq1l; dsimp only; omega
      · have hre : r = [] := List.length_eq_zero_iff.1 (by omega)
        have hrz' := hrz.1 hre
        rw [if_pos hrz', if_pos hrz'] at hdd
        refine ⟨hq.inB, hr.inB, ?_, ?_, by dsimp only; omega, by dsimp only; omega⟩
        · rw [hdd.1, hq.val]
        · rw [hdd.2, hr.val, hrz']
      rintro ⟨q1, r1⟩ ⟨hq1, hr1B, hq1v, hr1v, hq1l, hr1l⟩
      dsimp only at *
      refine Tm.bind (bnormal_tm hq1 (by omega)) ?_
      rintro q2 ⟨hq2, hq2l⟩
      refine Tm.bind (bnormal_tm hr1B (by omega)) ?_
      rintro r2 ⟨hr2, hr2l⟩
      refine Tm.pure ⟨⟨by simp [h0], ?_, ?_⟩, by dsimp only; omega, by dsimp only; omega⟩
      · rw [hab.1, ← hq1v]; simpa using hq2
      · rw [if_neg h0, hab.2, ← hr1v]; exact hr2
    · 
      have hs' : x.Negative = y.Negative := by simpa using hs
      have hab : (bv a).fdiv (bv b) = X / Y ∧ (bv a).fmod (bv b) = if y.Negative = true then -(X % Y) else X % Y := by
        by_cases p : bv a < 0 <;> by_cases p' : bv b < 0 <;> simp only [p, p', decide_true, decide_false, if_true, if_false] at n1 n2 vx vy
        · rw [n2, show bv a = -X by omega, show bv b = -Y by omega]; simpa using dv_same X0 Y0
        · rw [n1, n2] at hs'; cases hs'
        · rw [n1, n2] at hs'; cases hs'
        · rw [n2, show bv a = X by omega, show bv b = Y by omega, Int.fdiv_eq_ediv_of_nonneg _ (by omega), Int.fmod_eq_emod_of_nonneg _ (by omega)]; simp
      refine Tm.bind (bnormal_tm hq.inB (by omega)) ?_
      rintro q2 ⟨hq2, hq2l⟩
      refine Tm.bind (bnormal_tm hr.inB (by omega)) ?_
      rintro r2 ⟨hr2, hr2l⟩
      refine Tm.pure ⟨⟨by simp [h0], ?_, ?_⟩, by dsimp only; omega, by dsimp only; omega⟩
      · rw [hab.1, ← hq.val]; simpa using hq2
      · rw [if_neg h0, hab.2, ← hr.val]; exact hr2
end Go.D
