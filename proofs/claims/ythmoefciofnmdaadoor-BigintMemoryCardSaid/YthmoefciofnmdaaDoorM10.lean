/-
  Division: the rounds of the long division. Plain theorems.
-/
import Derived.Test.YthmoefciofnmdaaDoorM9
set_option linter.unusedSimpArgs false
set_option linter.unusedVariables false
namespace Go.D
open Go Go.X
theorem hi0 {l : List Int} {m : Nat} (h : InB W32 l) (hv : val W32 l < W32 ^ m) : ∀ j, m ≤ j → l.getD j 0 = 0 := by
  intro j hj
  rcases Nat.lt_or_ge j l.length with hl | hl
  · rw [getD_ok hl]
    have h1 := h.get hl
    rcases Int.lt_or_le 0 l[j] with h2 | h2
    · exfalso
      have e := val_split (B := W32) (l := l) j (by omega)
      rw [List.drop_eq_getElem_cons hl, val_cons] at e
      have p0 := val_nonneg (B := W32) (by decide) (h.take j)
      have p1 := val_nonneg (B := W32) (by decide) (h.drop (j + 1))
      have p2 := pow_pos' (B := W32) (by decide) j
      have p3 := pow_mono (B := W32) (by decide) hj
      have p4 : W32 ^ j * 1 ≤ W32 ^ j * (l[j] + W32 * val W32 (l.drop (j + 1))) := Int.mul_le_mul_of_nonneg_left (by have := Int.mul_nonneg (show (0 : Int) ≤ W32 by decide) p1; omega) (by omega)
      omega
    · omega
  · exact getD_out hl
theorem val_hi {l : List Int} {m : Nat} (h : InB W32 l) (hz : ∀ j, m ≤ j → l.getD j 0 = 0) : val W32 l < W32 ^ m := by
  rcases Nat.lt_or_ge m l.length with hm | hm
  · have := val_cut (B := W32) (l := l) (n := m) (by omega) (fun k hk hmk => by have := hz k hmk; rwa [getD_ok hk] at this)
    rw [← this]
    have h2 := val_lt (B := W32) (by decide) (h.take m)
    rwa [List.length_take, Nat.min_eq_left (by omega)] at h2
  · have h2 := val_lt (B := W32) (by decide) h
    have h3 := pow_mono (B := W32) (by decide) hm
    omega
theorem getD_drop {l : List Int} {n j : Nat} : (l.drop n).getD j 0 = l.getD (n + j) 0 := by
  rw [List.getD_eq_getElem?_getD, List.getD_eq_getElem?_getD, List.getElem?_drop]
theorem b3_tm {b v u : List Int} {n m : Nat} {g : Int} (hb : b.length = m) (hv : v.length = m) (hvB : InB W32 v) (huB : InB W32 u) (hu : n + m < u.length) (hul : u.length ≤ 35184372088832) (g0 : 0 ≤ g) (g1 : g < 4294967296) :
    Tm (fun N => loopM (bdivide_b3 N b v n g) N (u, 0, 0, 0)) (fun r => InB W32 r.2 ∧ r.2.length = u.length ∧ r.2.take n = u.take n ∧ (∀ k, n + m < k → r.2.getD k 0 = u.getD k 0) ∧ 0 ≤ r.1 ∧ r.1 ≤ 1 ∧ val W32 r.2 = val W32 u - W32 ^ n * (g * val W32 v) + W32 ^ (n + (m + 1)) * r.1) := by
  refine Tm.loop (fun t : List Int × Int × Int × Int => ∃ j : Nat, t.2.2.2 = j ∧ j ≤ m + 1 ∧ InB W32 t.1 ∧ t.1.length = u.length ∧ t.1.take n = u.take n ∧ (∀ k, n + j ≤ k → t.1.getD k 0 = u.getD k 0) ∧ 0 ≤ t.2.1 ∧ t.2.1 < 4294967296 ∧ (m < j → t.2.1 = 0) ∧ 0 ≤ t.2.2.1 ∧ t.2.2.1 ≤ 1 ∧ val W32 t.1 = val W32 u - W32 ^ n * (g * val W32 (v.take j)) + W32 ^ (n + j) * (t.2.1 + t.2.2.1)) (fun t => m + 1 - t.2.2.2.toNat)
    ⟨0, rfl, by omega, huB, rfl, rfl, fun _ _ => rfl, by simp, by simp, fun _ => rfl, by simp, by simp, by simp [val]⟩ ?_
  rintro ⟨x, carry, borrow, jj⟩ ⟨j, rfl, hj, hB, hx, htk, hup, c0, c1, hc, b0, b1, hval⟩
  dsimp only [bdivide_b3] at *
  have hi : iw ((iw ((n : Int) + (b.length : Int))) + 1) = ((n + m + 1 : Nat) : Int) := by rw [show iw ((n : Int) + (b.length : Int)) = (n : Int) + m by rw [iw_eq] <;> omega, iw_eq] <;> omega
  rw [hi]
  refine Tm.ite (fun h => ?_) (fun h => Tm.pure ?_)
  · have hjm : j ≤ m := by omega
    refine Tm.bind (digit_tm hvB) ?_
    rintro d rfl
    have hij : (n : Int) + (j : Int) = ((n + j : Nat) : Int) := by omega
    refine Tm.step (chk_ok (by omega)) (Tm.step (idx_g hij (by omega)) (Tm.step (chk_ok (by omega)) (Tm.step (idx_g hij (by omega)) (Tm.step (upd1_i hij (by omega)) (Tm.pure ?_)))))
    have hd := hvB.getD (by decide) j
    have hvt := val_take (B := W32) (l := v) (n := j)
    have hd0 : m ≤ j → v.getD j 0 = 0 := fun h => getD_out (by omega)
    have huu := hB.getD (by decide) (n + j)
    have hset := fun y => val_set (B := W32) (l := x) (n := n + j) (y := y) (by omega)
    rw [← getD_ok (l := x) (n := n + j) (by omega)] at hset
    generalize v.getD j 0 = d at *
    generalize hUU : x.getD (n + j) 0 = uu at *
    simp only [W32] at hd huu
    have hgd : 0 ≤ g * d ∧ g * d ≤ 4294967295 * 4294967295 := ⟨Int.mul_nonneg g0 hd.1, Int.mul_le_mul (by omega) (by omega) hd.1 (by decide)⟩
    rw [uw_id hgd.1 (by omega)]
    have hgd0 : m ≤ j → g * d = 0 := fun h => by rw [hd0 h]; simp
    generalize hC : g * d = gd at *
    rw [uw_id (show 0 ≤ carry + gd by omega) (by omega), band_lo (by omega) (by omega), bshr32]
    have e1 : uw (uw (uw uu - (carry + gd) % 4294967296) - borrow) = (uu - (carry + gd) % 4294967296 - borrow) % 18446744073709551616 := by
      rw [uw_mod, uw_mod, uw_mod]; omega
    rw [e1, bshr63, uw32_mod]
    have hy : (uu - (carry + gd) % 4294967296 - borrow) % 18446744073709551616 % 4294967296 = uu - (carry + gd) % 4294967296 - borrow + 4294967296 * ((uu - (carry + gd) % 4294967296 - borrow) % 18446744073709551616 / 9223372036854775808) := by omega
    have hb' : 0 ≤ (uu - (carry + gd) % 4294967296 - borrow) % 18446744073709551616 / 9223372036854775808 ∧ (uu - (carry + gd) % 4294967296 - borrow) % 18446744073709551616 / 9223372036854775808 ≤ 1 := by omega
    have hy2 : 0 ≤ (uu - (carry + gd) % 4294967296 - borrow) % 18446744073709551616 % 4294967296 ∧ (uu - (carry + gd) % 4294967296 - borrow) % 18446744073709551616 % 4294967296 < 4294967296 := by omega
    generalize (uu - (carry + gd) % 4294967296 - borrow) % 18446744073709551616 % 4294967296 = y at *
    generalize (uu - (carry + gd) % 4294967296 - borrow) % 18446744073709551616 / 9223372036854775808 = bb at *
    have hdm := Int.emod_add_mul_ediv (carry + gd) 4294967296
    refine ⟨⟨j + 1, by show iw ((j : Int) + 1) = _; rw [iw_eq] <;> omega, by omega, hB.set (by simp only [W32]; omega), by simp; omega, ?_, ?_, ?_, ?_, ?_, hb'.1, hb'.2, ?_⟩, ?_⟩
    · show (x.set (n + j) y).take n = _
      rw [List.take_set_of_le (by omega)]; exact htk
    · intro k hk
      show (x.set (n + j) y).getD k 0 = _
      rw [getD_set (by omega), if_neg (by omega)]; exact hup k (by omega)
    · show 0 ≤ (carry + gd) / 4294967296
      omega
    · show (carry + gd) / 4294967296 < 4294967296
      omega
    · intro h1
      show (carry + gd) / 4294967296 = 0
      have := hgd0 (by omega)
      omega
    · show val W32 (x.set (n + j) y) = _ + W32 ^ (n + (j + 1)) * ((carry + gd) / 4294967296 + bb)
      rw [hset, hval, hvt, hy]
      have hw : W32 = 4294967296 := rfl
      have hp : W32 ^ (n + (j + 1)) = W32 ^ n * W32 ^ j * 4294967296 := by rw [Int.pow_add, Int.pow_succ, hw]; grind
      rw [hp, Int.pow_add]
      generalize W32 ^ n = P at *
      generalize W32 ^ j = Q at *
      have e3 : g * (val W32 (v.take j) + Q * d) = g * val W32 (v.take j) + Q * gd := by rw [← hC]; grind
      rw [e3]
      generalize (carry + gd) / 4294967296 = cc at *
      generalize (carry + gd) % 4294967296 = c2 at *
      have e4 : gd = c2 + 4294967296 * cc - carry := by omega
      rw [e4]
      grind
    · show m + 1 - (iw ((j : Int) + 1)).toNat < m + 1 - ((j : Int)).toNat
      rw [iw_eq] <;> omega
  · have hjm : j = m + 1 := by omega
    subst hjm
    refine ⟨hB, hx, htk, fun k hk => hup k (by omega), b0, b1, ?_⟩
    show val W32 x = _
    rw [hval, hc (by omega), take_all (by omega), Int.zero_add]
theorem b4_tm {v u : List Int} {n m : Nat} (hv : v.length = m) (hvB : InB W32 v) (huB : InB W32 u) (hu : n + m < u.length) (hul : u.length ≤ 35184372088832) :
    Tm (fun N => loopM (bdivide_b4 N v n) N (u, 0, 0)) (fun r => InB W32 r.1 ∧ r.1.length = u.length ∧ r.1.take n = u.take n ∧ (∀ k, n + m ≤ k → r.1.getD k 0 = u.getD k 0) ∧ 0 ≤ r.2 ∧ r.2 ≤ 1 ∧ val W32 r.1 = val W32 u + W32 ^ n * val W32 v - W32 ^ (n + m) * r.2) := by
  refine Tm.loop (fun t : List Int × Int × Int => ∃ j : Nat, t.2.2 = j ∧ j ≤ m ∧ InB W32 t.1 ∧ t.1.length = u.length ∧ t.1.take n = u.take n ∧ (∀ k, n + j ≤ k → t.1.getD k 0 = u.getD k 0) ∧ 0 ≤ t.2.1 ∧ t.2.1 ≤ 1 ∧ val W32 t.1 = val W32 u + W32 ^ n * val W32 (v.take j) - W32 ^ (n + j) * t.2.1) (fun t => m - t.2.2.toNat)
    ⟨0, rfl, by omega, huB, rfl, rfl, fun _ _ => rfl, by simp, by simp, by simp [val]⟩ ?_
  rintro ⟨x, carry, jj⟩ ⟨j, rfl, hj, hB, hx, htk, hup, c0, c1, hval⟩
  dsimp only [bdivide_b4] at *
  refine Tm.ite (fun h => ?_) (fun h => Tm.pure ?_)
  · have hij : iw ((n : Int) + (j : Int)) = ((n + j : Nat) : Int) := by rw [iw_eq] <;> omega
    refine Tm.step (idx_g hij (by omega)) (Tm.step (idx_g rfl (by omega)) (Tm.step (idx_g hij (by omega)) (Tm.step (upd1_i hij (by omega)) (Tm.pure ?_))))
    have hd := hvB.getD (by decide) j
    have hvt := val_take (B := W32) (l := v) (n := j)
    have huu := hB.getD (by decide) (n + j)
    have hset := fun y => val_set (B := W32) (l := x) (n := n + j) (y := y) (by omega)
    rw [← getD_ok (l := x) (n := n + j) (by omega)] at hset
    generalize v.getD j 0 = d at *
    generalize hUU : x.getD (n + j) 0 = uu at *
    simp only [W32] at hd huu
    have e1 : uw (carry + uw (uw uu + uw d)) = carry + uu + d := by rw [uw_mod, uw_mod, uw_mod, uw_mod]; omega
    rw [e1, bshr32, uw32_mod]
    have hdm := Int.emod_add_mul_ediv (carry + uu + d) 4294967296
    refine ⟨⟨j + 1, by show iw ((j : Int) + 1) = _; rw [iw_eq] <;> omega, by omega, hB.set (by simp only [W32]; omega), by simp; omega, ?_, ?_, ?_, ?_, ?_⟩, ?_⟩
    · show (x.set (n + j) _).take n = _
      rw [List.take_set_of_le (by omega)]; exact htk
    · intro k hk
      show (x.set (n + j) _).getD k 0 = _
      rw [getD_set (by omega), if_neg (by omega)]; exact hup k (by omega)
    · show 0 ≤ (carry + uu + d) / 4294967296
      omega
    · show (carry + uu + d) / 4294967296 ≤ 1
      omega
    · show val W32 (x.set (n + j) ((carry + uu + d) % 4294967296)) = _ - W32 ^ (n + (j + 1)) * ((carry + uu + d) / 4294967296)
      rw [hset, hval, hvt]
      have hw : W32 = 4294967296 := rfl
      have hp : W32 ^ (n + (j + 1)) = W32 ^ n * W32 ^ j * 4294967296 := by rw [Int.pow_add, Int.pow_succ, hw]; grind
      rw [hp, Int.pow_add]
      generalize W32 ^ n = P at *
      generalize W32 ^ j = Q at *
      generalize (carry + uu + d) / 4294967296 = cc at *
      generalize (carry + uu + d) % 4294967296 = c2 at *
      have e4 : c2 = carry + uu + d - 4294967296 * cc := by omega
      rw [e4]
      grind
    · show m - (iw ((j : Int) + 1)).toNat < m - ((j : Int)).toNat
      rw [iw_eq] <;> omega
  · have hjm : j = m := by omega
    subst hjm
    rw [take_all (by omega)] at hval
    exact ⟨hB, hx, htk, hup, c0, c1, hval⟩
theorem val_above {u x : List Int} {n : Nat} {t : Int} (hu : n ≤ u.length) (hx : x.length = u.length) (htk : x.take n = u.take n) (h : val W32 x = val W32 u + W32 ^ n * t) : val W32 (x.drop n) = val W32 (u.drop n) + t := by
  rw [val_split (B := W32) (l := x) n (by omega), val_split (B := W32) (l := u) n hu, htk] at h
  have h1 : W32 ^ n * val W32 (x.drop n) = W32 ^ n * (val W32 (u.drop n) + t) := by rw [Int.mul_add]; omega
  exact Int.eq_of_mul_eq_mul_left (by have := pow_pos' (B := W32) (by decide) n; omega) h1
theorem top3 {l : List Int} {m : Nat} (h : InB W32 l) (hm : 2 ≤ m) (hl : m < l.length) (hv : val W32 l < W32 ^ (m + 1)) : val W32 l = ((l.getD m 0 * W32 + l.getD (m - 1) 0) * W32 + l.getD (m - 2) 0) * W32 ^ (m - 2) + val W32 (l.take (m - 2)) := by
  have h0 := val_cut (B := W32) (l := l) (n := m + 1) (by omega) (fun k hk hmk => by have := hi0 h hv k hmk; rwa [getD_ok hk] at this)
  obtain ⟨k, rfl⟩ : ∃ k, m = k + 2 := ⟨m - 2, by omega⟩
  rw [← h0, val_take, val_take (n := k + 1), val_take (n := k), show k + 2 - 1 = k + 1 by omega, show k + 2 - 2 = k by omega, Int.pow_succ, Int.pow_succ]
  grind
theorem top2 {l : List Int} {m : Nat} (hm : 2 ≤ m) (hl : l.length = m) : val W32 l = (l.getD (m - 1) 0 * W32 + l.getD (m - 2) 0) * W32 ^ (m - 2) + val W32 (l.take (m - 2)) := by
  obtain ⟨k, rfl⟩ : ∃ k, m = k + 2 := ⟨m - 2, by omega⟩
  have h0 : l.take (k + 1 + 1) = l := take_all (by omega)
  rw [← h0, val_take, val_take (n := k), h0, show k + 2 - 1 = k + 1 by omega, show k + 2 - 2 = k by omega, Int.pow_succ]
  grind
theorem b1_tm {b v u q : List Int} {m : Nat} (hb : b.length = m) (hm : 2 ≤ m) (hv : v.length = m) (hvB : InB W32 v) (huB : InB W32 u) (hqB : InB W32 q) (hu : u.length = q.length + m) (hul : u.length ≤ 17592186044416) (hv1 : 0 < v.getD (m - 1) 0) (h0 : val W32 (u.drop q.length) < val W32 v) :
    Tm (fun N => loopM (bdivide_b1 N b v) N (u, q, iw ((q.length : Int) - 1))) (fun r => InB W32 r.1 ∧ r.1.length = u.length ∧ InB W32 r.2 ∧ r.2.length = q.length ∧ val W32 u = val W32 r.1 + val W32 v * val W32 r.2 ∧ val W32 r.1 < val W32 v) := by
  refine Tm.loop (fun t : List Int × List Int × Int => ∃ k : Nat, t.2.2 = (k : Int) - 1 ∧ k ≤ q.length ∧ InB W32 t.1 ∧ t.1.length = u.length ∧ InB W32 t.2.1 ∧ t.2.1.length = q.length ∧ val W32 u = val W32 t.1 + W32 ^ k * (val W32 v * val W32 (t.2.1.drop k)) ∧ val W32 (t.1.drop k) < val W32 v) (fun t => (t.2.2 + 1).toNat)
    ⟨q.length, by rw [iw_eq] <;> omega, Nat.le_refl _, huB, rfl, hqB, rfl, by simp [val], h0⟩ ?_
  rintro ⟨x, y, ii⟩ ⟨k, rfl, hk, hxB, hx, hyB, hy, hval, hlt⟩
  dsimp only [bdivide_b1] at *
  refine Tm.ite (fun h => ?_) (fun h => Tm.pure ?_)
  · obtain ⟨n, rfl⟩ : ∃ n, k = n + 1 := ⟨k - 1, by omega⟩
    have hi : ((n + 1 : Nat) : Int) - 1 = (n : Int) := by omega
    rw [hi]
    have him : iw ((n : Int) + (b.length : Int)) = ((n + m : Nat) : Int) := by rw [iw_eq] <;> omega
    have him1 : iw (((n + m : Nat) : Int) - 1) = ((n + m - 1 : Nat) : Int) := by rw [iw_eq] <;> omega
    have hbm : iw ((b.length : Int) - 1) = ((m - 1 : Nat) : Int) := by rw [iw_eq] <;> omega
    rw [him, him1, hbm]
    refine Tm.step (idx_g rfl (by omega)) (Tm.step (idx_g rfl (by omega)) (Tm.step (idx_g rfl (by omega)) ?_))
    have hV := top2 hm hv
    have hVl := val_nonneg (B := W32) (by decide) (hvB.take (m - 2))
    have hVl' := val_lt (B := W32) (by decide) (hvB.take (m - 2))
    rw [List.length_take, Nat.min_eq_left (by omega)] at hVl'
    have hVW : val W32 v < W32 ^ m := by have := val_lt (B := W32) (by decide) hvB; rwa [hv] at this
    have hxn := hxB.getD (B := W32) (by decide) n
    have hRe : val W32 (x.drop n) = x.getD n 0 + W32 * val W32 (x.drop (n + 1)) := by rw [List.drop_eq_getElem_cons (by omega), val_cons, getD_ok (by omega)]
    have hR0 := val_nonneg (B := W32) (by decide) (hxB.drop n)
    have hRV : val W32 (x.drop n) < 4294967296 * val W32 v := by
      rw [hRe]; simp only [W32] at *; omega
    have hR1 : val W32 (x.drop n) < W32 ^ (m + 1) := by
      rw [Int.pow_succ]; simp only [W32] at *; omega
    have hR := top3 (hxB.drop n) hm (by simp; omega) hR1
    have hRl := val_nonneg (B := W32) (by decide) ((hxB.drop n).take (m - 2))
    have hRl' := val_lt (B := W32) (by decide) ((hxB.drop n).take (m - 2))
    rw [List.length_take, List.length_drop, Nat.min_eq_left (by omega)] at hRl'
    rw [getD_drop, getD_drop, getD_drop, show n + (m - 1) = n + m - 1 by omega, show n + (m - 2) = n + m - 2 by omega] at hR
    have d1 := hvB.getD (B := W32) (by decide) (m - 1)
    have d2 := hvB.getD (B := W32) (by decide) (m - 2)
    have d3 := hxB.getD (B := W32) (by decide) (n + m)
    have d4 := hxB.getD (B := W32) (by decide) (n + m - 1)
    have d5 := hxB.getD (B := W32) (by decide) (n + m - 2)
    have hp := pow_pos' (B := W32) (by decide) (m - 2)
    have hV0 := val_nonneg (B := W32) (by decide) hvB
    simp only [W32] at d1 d2 d3 d4 d5
    rw [uw_id (z := x.getD (n + m) 0) d3.1 (by omega), uw_id (z := x.getD (n + m - 1) 0) d4.1 (by omega), uw_id (z := v.getD (m - 1) 0) d1.1 (by omega), bor_hi d3.1 d3.2 d4.1 d4.2]
    have t0 : 0 ≤ x.getD (n + m) 0 * 4294967296 + x.getD (n + m - 1) 0 := by omega
    have t1 : x.getD (n + m) 0 * 4294967296 + x.getD (n + m - 1) 0 < 18446744073709551616 := by omega
    refine Tm.step (sdiv_ok (by omega)) (Tm.step (idx_g rfl (by omega)) ?_)
    rw [uw_id (z := v.getD (m - 1) 0) d1.1 (by omega)]
    refine Tm.step (srem_ok (by omega)) ?_
    rw [tdivP t0, tmodP t0]
    have hq0 := Int.ediv_nonneg t0 (show 0 ≤ v.getD (m - 1) 0 by omega)
    have hq1 : (x.getD (n + m) 0 * 4294967296 + x.getD (n + m - 1) 0) / v.getD (m - 1) 0 ≤ x.getD (n + m) 0 * 4294967296 + x.getD (n + m - 1) 0 := Int.ediv_le_self _ t0
    have hm0 := Int.emod_nonneg (x.getD (n + m) 0 * 4294967296 + x.getD (n + m - 1) 0) (show v.getD (m - 1) 0 ≠ 0 by omega)
    have hm1 := Int.emod_lt_of_pos (x.getD (n + m) 0 * 4294967296 + x.getD (n + m - 1) 0) hv1
    have hdm := Int.emod_add_mul_ediv (x.getD (n + m) 0 * 4294967296 + x.getD (n + m - 1) 0) (v.getD (m - 1) 0)
    rw [show IntKind.u64.wrap ((x.getD (n + m) 0 * 4294967296 + x.getD (n + m - 1) 0) / v.getD (m - 1) 0) = (x.getD (n + m) 0 * 4294967296 + x.getD (n + m - 1) 0) / v.getD (m - 1) 0 from uw_id hq0 (by omega)]
    refine Tm.bind (b2_tm (b := b) (v := v) (u := x) (n := n) (m := m) (V := val W32 v) (R := val W32 (x.drop n)) (top := x.getD (n + m) 0 * 4294967296 + x.getD (n + m - 1) 0) hb hv hm (by omega) (by omega) rfl rfl rfl ⟨hv1, d1.2⟩ d2 d5 hp hV ⟨hVl, hVl'⟩ hR ⟨hRl, hRl'⟩ hRV
      (by have := Int.mul_comm (v.getD (m - 1) 0) ((x.getD (n + m) 0 * 4294967296 + x.getD (n + m - 1) 0) / v.getD (m - 1) 0); omega) ⟨hm0, hm1⟩ ⟨hq0, by omega⟩) ?_
    rintro g ⟨g0, g1, hgR, hgV⟩
    clear hdm hm0 hm1 hq0 hq1
    generalize hRR : val W32 (x.drop n) = R at *
    generalize hVV : val W32 v = V at *
    have hsg : iw (((n + m : Nat) : Int) + 1) = ((n + m + 1 : Nat) : Int) := by rw [iw_eq] <;> omega
    rw [hsg]
    refine Tm.step (f := seg _ _ _) (a := ()) (by unfold seg; rw [if_pos (by omega)]) ?_
    refine Tm.bind (Q := fun r : List Int × Bool => InB W32 r.1 ∧ r.1.length = x.length ∧ r.1.take n = x.take n ∧ (∀ k, n + m < k → r.1.getD k 0 = x.getD k 0) ∧ ((r.2 = false ∧ val W32 (r.1.drop n) = R - g * V) ∨ (r.2 = true ∧ val W32 (r.1.drop n) = R - g * V + W32 ^ (m + 1)))) ?_ ?_
    · refine Tm.bind (b3_tm (b := b) (v := v) (u := x) (n := n) (m := m) (g := g) hb hv hvB hxB (by omega) (by omega) g0 g1) ?_
      rintro ⟨bo, z⟩ ⟨z1, z2, z3, z4, z5, z6, z7⟩
      dsimp only at *
      refine Tm.pure ⟨z1, z2, z3, z4, ?_⟩
      have hva := val_above (u := x) (x := z) (n := n) (t := - (g * V) + W32 ^ (m + 1) * bo) (by omega) z2 z3 (by rw [z7, hVV, Int.pow_add W32 n (m + 1)]; grind)
      rw [hRR] at hva
      rcases (show bo = 0 ∨ bo = 1 by omega) with rfl | rfl
      · exact .inl ⟨rfl, by rw [hva, Int.mul_zero]; omega⟩
      · exact .inr ⟨rfl, by rw [hva, Int.mul_one]; omega⟩
    rintro ⟨z, bz⟩ ⟨z1, z2, z3, z4, z5⟩
    dsimp only at *
    have hzn := val_nonneg (B := W32) (by decide) (z1.drop n)
    have hzW : val W32 (z.drop n) < W32 ^ (m + 1) := val_hi (z1.drop n) (fun j hj => by rw [getD_drop, z4 _ (by omega)]; have := hi0 (hxB.drop n) (by rw [hRR]; exact hR1) j hj; rwa [getD_drop] at this)
    have e1 : (g + 1) * V = g * V + V := by grind
    refine Tm.bind (Q := fun r : List Int × Int => InB W32 r.1 ∧ r.1.length = x.length ∧ r.1.take n = x.take n ∧ 0 ≤ r.2 ∧ r.2 < 4294967296 ∧ val W32 (r.1.drop n) = R - r.2 * V ∧ val W32 (r.1.drop n) < V) ?_ ?_
    · refine Tm.ite (fun hz => ?_) (fun hz => Tm.pure ?_)
      · have z6 : val W32 (z.drop n) = R - g * V + W32 ^ (m + 1) := by
          rcases z5 with z5 | z5
          · rw [z5.1] at hz; cases hz
          · exact z5.2
        refine Tm.bind (b4_tm (v := v) (u := z) (n := n) (m := m) hv hvB z1 (by omega) (by omega)) ?_
        rintro ⟨s, carry⟩ ⟨s1, s2, s3, s4, s5, s6, s7⟩
        dsimp only at *
        have hset := fun y => val_set (B := W32) (l := s) (n := n + m) (y := y) (by omega)
        rw [← getD_ok (l := s) (n := n + m) (by omega)] at hset
        have hsd := s1.getD (B := W32) (by decide) (n + m)
        refine Tm.step (idx_g rfl (by omega)) (Tm.step (idx_g rfl (by omega)) (Tm.step (upd1_i rfl (by omega)) (Tm.pure ?_)))
        have hsu := fun k hk => s4 k hk
        generalize hD : s.getD (n + m) 0 = D at *
        simp only [W32] at hsd
        have ec : uw32 (D + uw32 carry) = (D + carry) % 4294967296 := by rw [uw32_mod, uw32_mod]; omega
        rw [ec]
        have hdm := Int.emod_add_mul_ediv (D + carry) 4294967296
        have hdb : 0 ≤ (D + carry) % 4294967296 ∧ (D + carry) % 4294967296 < 4294967296 := by omega
        generalize (D + carry) % 4294967296 = D' at *
        generalize (D + carry) / 4294967296 = tt at *
        have hB' : InB W32 (s.set (n + m) D') := s1.set (by simp only [W32]; omega)
        have hva := val_above (u := z) (x := s.set (n + m) D') (n := n) (t := V - W32 ^ (m + 1) * tt) (by omega) (by simp; omega) (by rw [List.take_set_of_le (by omega)]; exact s3) (by
          rw [hset, s7, hVV, Int.pow_add, Int.pow_succ]
          have hw : W32 = 4294967296 := rfl
          have e4 : D' = D + carry - 4294967296 * tt := by omega
          rw [e4]
          generalize W32 ^ n = P at *
          generalize W32 ^ m = Q at *
          rw [hw]
          grind)
        have hlo := val_nonneg (B := W32) (by decide) (hB'.drop n)
        have hhi : val W32 ((s.set (n + m) D').drop n) < W32 ^ (m + 1) := val_hi (hB'.drop n) (fun j hj => by
          rw [getD_drop, getD_set (by omega), if_neg (by omega), s4 _ (by omega), z4 _ (by omega)]
          have := hi0 (hxB.drop n) (by rw [hRR]; exact hR1) j hj; rwa [getD_drop] at this)
        have hpp := pow_pos' (B := W32) (by decide) (m + 1)
        have hgp : 0 < g := by
          rcases Int.lt_or_le 0 g with h' | h'
          · exact h'
          · have : g = 0 := by omega
            subst this
            rw [Int.zero_mul] at z6; omega
        have htt : tt = 1 := by
          have e3 : tt = 0 ∨ tt = 1 := by omega
          rcases e3 with e3 | e3
          · subst e3
            rw [hva, z6, Int.mul_zero] at hhi
            omega
          · exact e3
        subst htt
        have e5 : (g - 1) * V = g * V - V := by grind
        refine ⟨hB', by simp; omega, by dsimp only; rw [List.take_set_of_le (by omega)]; exact s3.trans z3, ?_, ?_, ?_, ?_⟩
        · show 0 ≤ uw (g - 1)
          rw [uw_id] <;> omega
        · show uw (g - 1) < _
          rw [uw_id] <;> omega
        · show val W32 ((s.set (n + m) D').drop n) = R - uw (g - 1) * V
          rw [uw_id (show 0 ≤ g - 1 by omega) (by omega), hva, z6, e5, Int.mul_one]; omega
        · show val W32 ((s.set (n + m) D').drop n) < V
          rw [hva, z6, Int.mul_one]; omega
      · have z6 : val W32 (z.drop n) = R - g * V := by
          rcases z5 with z5 | z5
          · exact z5.2
          · exact absurd z5.1 hz
        exact ⟨z1, z2, z3, g0, g1, z6, by dsimp only; omega⟩
    rintro ⟨s, g'⟩ ⟨s1, s2, s3, s4, s5, s6, s7⟩
    dsimp only at *
    refine Tm.step (idx_g rfl (by omega)) (Tm.step (upd1_i rfl (by omega)) (Tm.pure ?_))
    have eg : uw32 g' = g' := by rw [uw32_mod]; omega
    rw [eg]
    refine ⟨⟨n, by show iw ((n : Int) - 1) = _; rw [iw_eq] <;> omega, by omega, s1, s2.trans hx, hyB.set (by simp only [W32]; omega), by simp; omega, ?_, s7⟩, ?_⟩
    · show val W32 u = val W32 s + W32 ^ n * (V * val W32 ((y.set n g').drop n))
      rw [List.drop_eq_getElem_cons (by simp; omega), val_cons, List.getElem_set_self, List.drop_set_of_lt (by omega), hval, val_split (B := W32) (l := s) n (by omega), s6, s3, val_split (B := W32) (l := x) n (by omega), hRR, Int.pow_succ]
      generalize W32 ^ n = P at *
      generalize W32 = W at *
      grind
    · show (iw ((n : Int) - 1) + 1).toNat < ((n : Int) + 1).toNat
      rw [iw_eq] <;> omega
  · obtain rfl : k = 0 := by omega
    simp only [List.drop_zero, Int.pow_zero, Int.one_mul] at hval hlt
    exact ⟨hxB, hx, hyB, hy, hval, hlt⟩
end Go.D
