/-
  Division: long division digit by digit. Plain theorems.
-/
import Derived.Test.YthmoefciofnmdaaDoorM8
set_option linter.unusedSimpArgs false
set_option linter.unusedVariables false
namespace Go.D
open Go Go.X
theorem idx_g {xs : List Int} {i : Int} {n : Nat} (e : i = (n : Int)) (h : n < xs.length) : idx xs i = some (xs.getD n 0) := by
  rw [getD_ok h]; exact idx_i e h
theorem sdiv_ok {k : IntKind} {x y : Int} (h : y ≠ 0) : sdiv k x y = some (k.wrap (x.tdiv y)) := by unfold sdiv; rw [if_neg h]
theorem srem_ok {x y : Int} (h : y ≠ 0) : srem x y = some (x.tmod y) := by unfold srem; rw [if_neg h]
theorem u64_nat {z : Nat} (h : z < 18446744073709551616) : IntKind.u64.wrap (z : Int) = z := by rw [show IntKind.u64.wrap (z : Int) = (z : Int) % 18446744073709551616 from wu]; omega
theorem bshl32 {x : Int} (h0 : 0 ≤ x) (h1 : x < 4294967296) : bshl .u64 x 32 = x * 4294967296 := by
  unfold bshl
  rw [show ((2 : Int) ^ (min (32 : Int).toNat IntKind.u64.bits)) = 4294967296 from rfl]
  rw [show IntKind.u64.wrap (x * 4294967296) = (x * 4294967296) % 18446744073709551616 from wu]; omega
theorem bor_hi {x y : Int} (h0 : 0 ≤ x) (h1 : x < 4294967296) (h2 : 0 ≤ y) (h3 : y < 4294967296) : bor .u64 (bshl .u64 x 32) y = x * 4294967296 + y := by
  rw [bshl32 h0 h1]
  obtain ⟨a, rfl⟩ := Int.eq_ofNat_of_zero_le h0
  obtain ⟨b, rfl⟩ := Int.eq_ofNat_of_zero_le h2
  rw [show (a : Int) * 4294967296 = ((a * 2 ^ 32 : Nat) : Int) by simp]
  rw [bor_nat (u64_nat (by omega)) (u64_nat (by omega)), ← Nat.shiftLeft_eq, ← Nat.shiftLeft_add_eq_or_of_lt (by omega), Nat.shiftLeft_eq]
  omega
theorem band_lo {z : Int} (h0 : 0 ≤ z) (h1 : z < 18446744073709551616) : band .u64 z 4294967295 = z % 4294967296 := by
  obtain ⟨a, rfl⟩ := Int.eq_ofNat_of_zero_le h0
  rw [show (4294967295 : Int) = ((2 ^ 32 - 1 : Nat) : Int) by decide, band_nat (u64_nat (by omega)) (u64_nat (by decide)), Nat.and_two_pow_sub_one_eq_mod]
  omega
theorem uw_id {z : Int} (h0 : 0 ≤ z) (h1 : z < 18446744073709551616) : uw z = z := by rw [uw_mod]; omega
theorem tdivP {x y : Int} (h : 0 ≤ x) : x.tdiv y = x / y := Int.tdiv_eq_ediv_of_nonneg h
theorem tmodP {x y : Int} (h : 0 ≤ x) : x.tmod y = x % y := Int.tmod_eq_emod_of_nonneg h
theorem bshort_tm {a : List Int} {y : Int} (ha : InB W32 a) (h0 : 0 < y) (h1 : y < W32) (hl : a.length ≤ 17592186044416) :
    Tm (fun N => bshort N a y) (fun r => InB W32 r.1 ∧ val W32 r.1 = val W32 a / y ∧ r.2 = val W32 a % y ∧ r.1.length = a.length) := by
  unfold bshort
  refine Tm.step (mk1_ok rfl (by omega) (by decide)) ?_
  refine Tm.bind (Q := fun r : List Int × Int => InB W32 r.1 ∧ r.1.length = a.length ∧ 0 ≤ r.2 ∧ r.2 < y ∧ val W32 r.1 * y + r.2 = val W32 a)
    (Tm.loop (fun t : List Int × Int × Int => ∃ k : Nat, t.2.2 = (k : Int) - 1 ∧ k ≤ a.length ∧ t.1.length = a.length ∧ InB W32 t.1 ∧ 0 ≤ t.2.1 ∧ t.2.1 < y ∧ (∀ j, j < k → t.1.getD j 0 = 0) ∧ val W32 t.1 * y + W32 ^ k * t.2.1 + val W32 (a.take k) = val W32 a) (fun t => (t.2.2 + 1).toNat)
      ⟨a.length, by rw [iw_eq] <;> omega, Nat.le_refl _, by simp, InB.rep (by decide), by simp, h0, fun j hj => by rw [getD_ok (by simpa using hj)]; simp, by rw [take_all (Nat.le_refl _), val_rep]; simp⟩ ?_) ?_
  · rintro ⟨out, rest, i⟩ ⟨k, rfl, hk, ho, hB, r0, r1, hz, hv⟩
    dsimp only [bshort_b1] at *
    refine Tm.ite (fun h => ?_) (fun h => Tm.pure ?_)
    · obtain ⟨n, rfl⟩ : ∃ n, k = n + 1 := ⟨k - 1, by omega⟩
      have hi : ((n + 1 : Nat) : Int) - 1 = (n : Int) := by omega
      rw [hi]
      have hx := ha.getD (by decide) n
      have hvt := val_take (B := W32) (l := a) (n := n)
      refine Tm.step (idx_g rfl (by omega)) ?_
      generalize a.getD n 0 = x at *
      simp only [W32] at hx h1
      have ex : uw x = x := uw_id hx.1 (by omega)
      have ey : uw y = y := uw_id (by omega) (by omega)
      rw [ex, ey, bor_hi r0 (by omega) hx.1 hx.2]
      have hT0 : 0 ≤ rest * 4294967296 + x := by omega
      have hq1 : (rest * 4294967296 + x) / y < 4294967296 := Int.ediv_lt_of_lt_mul h0 (by
        have := Int.mul_le_mul_of_nonneg_right (show rest + 1 ≤ y by omega) (show (0 : Int) ≤ 4294967296 by decide)
        rw [Int.mul_comm 4294967296 y]; omega)
      have hq0 : 0 ≤ (rest * 4294967296 + x) / y := Int.ediv_nonneg hT0 (by omega)
      refine Tm.step (sdiv_ok (by omega)) (Tm.step (idx_g rfl (by omega)) (Tm.step (upd1_i rfl (by omega)) (Tm.step (srem_ok (by omega)) (Tm.pure ?_))))
      rw [tdivP hT0, tmodP hT0, show IntKind.u64.wrap ((rest * 4294967296 + x) / y) = (rest * 4294967296 + x) / y from uw_id hq0 (by omega), show uw32 ((rest * 4294967296 + x) / y) = (rest * 4294967296 + x) / y by rw [uw32_mod]; omega]
      have hm0 := Int.emod_nonneg (rest * 4294967296 + x) (show y ≠ 0 by omega)
      have hm1 := Int.emod_lt_of_pos (rest * 4294967296 + x) h0
      have hd := Int.emod_add_mul_ediv (rest * 4294967296 + x) y
      refine ⟨⟨n, by show iw ((n : Int) - 1) = _; rw [iw_eq] <;> omega, by omega, by simp; omega, hB.set (by simp only [W32]; omega), hm0, hm1, fun j hj => ?_, ?_⟩, ?_⟩
      · show (out.set n _).getD j 0 = 0
        rw [getD_set (by omega), if_neg (by omega)]; exact hz j (by omega)
      · show val W32 (out.set n _) * y + W32 ^ n * ((rest * 4294967296 + x) % y) + val W32 (a.take n) = _
        have hon : out[n]'(by omega) = 0 := by have := hz n (by omega); rwa [getD_ok (by omega)] at this
        rw [val_set (by omega), hon]
        rw [Int.pow_succ] at hv
        have hw : W32 = 4294967296 := rfl
        generalize (rest * 4294967296 + x) / y = q at *
        generalize (rest * 4294967296 + x) % y = t at *
        rw [← hv, hvt]
        have e1 : W32 ^ n * W32 * rest = W32 ^ n * (rest * 4294967296) := by rw [hw]; grind
        have e2 : W32 ^ n * (t + y * q) = W32 ^ n * (rest * 4294967296 + x) := by rw [hd]
        rw [e1]
        grind
      · show (iw ((n : Int) - 1) + 1).toNat < ((n : Int) + 1).toNat
        rw [iw_eq] <;> omega
    · obtain rfl : k = 0 := by omega
      refine ⟨hB, ho, r0, r1, ?_⟩
      simpa [val] using hv
  · rintro ⟨out, rest⟩ ⟨hB, ho, r0, r1, hv⟩
    dsimp only at *
    simp only [W32] at h1
    refine Tm.pure ⟨hB, ?_, ?_, ho⟩
    · show val W32 out = _
      rw [← hv, Int.add_comm, Int.add_mul_ediv_right _ _ (by omega), Int.ediv_eq_zero_of_lt r0 r1]; omega
    · show uw32 rest = _
      rw [uw32_mod, ← hv, Int.add_comm, Int.add_mul_emod_self_right, Int.emod_eq_of_lt r0 r1]; omega
section
variable {W V R v1 v2 u2 top p vl rl g rest : Int}
theorem g_dec (hp : 0 < p) (hV : V = (v1 * W + v2) * p + vl) (hvl : 0 ≤ vl) (hR : R = (top * W + u2) * p + rl) (hrl : rl < p) (ht : top = g * v1 + rest) (hg : 0 ≤ g) (h : rest * W + u2 < g * v2) : R < g * V := by
  have h1 : top * W + u2 + 1 ≤ g * (v1 * W + v2) := by
    have e : g * (v1 * W + v2) = (g * v1) * W + g * v2 := by grind
    have e2 : top * W = (g * v1) * W + rest * W := by rw [ht]; grind
    omega
  have h2 := Int.mul_le_mul_of_nonneg_right h1 (Int.le_of_lt hp)
  have h3 : 0 ≤ g * vl := Int.mul_nonneg hg hvl
  have e1 : g * V = g * (v1 * W + v2) * p + g * vl := by rw [hV]; grind
  have e2 : (top * W + u2 + 1) * p = (top * W + u2) * p + p := by grind
  omega
theorem g_top (hp : 0 < p) (hW : 0 < W) (hv2 : v2 < W) (hV : V = (v1 * W + v2) * p + vl) (hvl : vl < p) (hR : R = (top * W + u2) * p + rl) (hu2 : 0 ≤ u2) (hrl : 0 ≤ rl) (h : R < W * V) : top < (v1 + 1) * W := by
  have h1 : top * W < W * (v1 * W + v2 + 1) := by
    rcases Int.lt_or_le (top * W) (W * (v1 * W + v2 + 1)) with h1 | h1
    · exact h1
    · exfalso
      have h2 := Int.mul_le_mul_of_nonneg_right (show W * (v1 * W + v2 + 1) ≤ top * W + u2 by omega) (Int.le_of_lt hp)
      have h3 : W * vl < W * p := Int.mul_lt_mul_of_pos_left hvl hW
      have e1 : W * V = W * (v1 * W + v2) * p + W * vl := by rw [hV]; grind
      have e2 : W * (v1 * W + v2 + 1) * p = W * (v1 * W + v2) * p + W * p := by grind
      omega
  have h2 : W * top < W * (v1 * W + v2 + 1) := by rw [Int.mul_comm W top]; exact h1
  have h3 := Int.lt_of_mul_lt_mul_left h2 (Int.le_of_lt hW)
  have e : (v1 + 1) * W = v1 * W + W := by grind
  omega
theorem g_small (hv1 : 0 < v1) (ht : top = g * v1 + rest) (hr : W ≤ rest) (h : top < (v1 + 1) * W) : g < W := by
  have h1 : g * v1 < W * v1 := by
    have e : (v1 + 1) * W = W * v1 + W := by grind
    omega
  exact Int.lt_of_mul_lt_mul_right h1 (Int.le_of_lt hv1)
theorem g_brk (hp : 0 < p) (hW : 0 < W) (hv2 : 0 ≤ v2) (hv2' : v2 < W) (hV : V = (v1 * W + v2) * p + vl) (hvl : 0 ≤ vl) (hvl' : vl < p) (hR : R = (top * W + u2) * p + rl) (hu2 : 0 ≤ u2) (hrl : 0 ≤ rl)
    (ht : top = g * v1 + rest) (hr : W ≤ rest) (hg : 0 ≤ g) (hgW : g < W) : g * V ≤ R := by
  have h1 : g * (v2 * p + vl) ≤ W * (W * p) := by
    have : v2 * p + vl ≤ W * p := by
      have := Int.mul_le_mul_of_nonneg_right (show v2 + 1 ≤ W by omega) (Int.le_of_lt hp)
      have e : (v2 + 1) * p = v2 * p + p := by grind
      omega
    have h0 : 0 ≤ v2 * p + vl := by have := Int.mul_nonneg hv2 (Int.le_of_lt hp); omega
    exact Int.mul_le_mul (by omega) this h0 (by omega)
  have h2 : W * (W * p) ≤ rest * (W * p) := Int.mul_le_mul_of_nonneg_right hr (Int.mul_nonneg (by omega) (by omega))
  have h3 : 0 ≤ u2 * p := Int.mul_nonneg hu2 (by omega)
  have e1 : g * V = g * v1 * (W * p) + g * (v2 * p + vl) := by rw [hV]; grind
  have e2 : R = g * v1 * (W * p) + rest * (W * p) + u2 * p + rl := by rw [hR, ht]; grind
  omega
theorem g_end (hp : 0 < p) (hW : 0 < W) (hv1 : 0 < v1) (hv2 : 0 ≤ v2) (hV : V = (v1 * W + v2) * p + vl) (hvl : 0 ≤ vl) (hvl' : vl < p) (hR : R = (top * W + u2) * p + rl) (hrl : 0 ≤ rl)
    (ht : top = g * v1 + rest) (hg : 0 ≤ g) (hgW : g < W) (h : g * v2 ≤ rest * W + u2) : g * V ≤ R + V := by
  have h1 : g * (v1 * W + v2) ≤ top * W + u2 := by
    have e : g * (v1 * W + v2) = (g * v1) * W + g * v2 := by grind
    have e2 : top * W = (g * v1) * W + rest * W := by rw [ht]; grind
    omega
  have h2 := Int.mul_le_mul_of_nonneg_right h1 (Int.le_of_lt hp)
  have h3 : g * vl ≤ W * p := Int.mul_le_mul (by omega) (by omega) hvl (by omega)
  have h4 : W * p ≤ v1 * (W * p) := by
    have := Int.mul_le_mul_of_nonneg_right (show 1 ≤ v1 by omega) (show 0 ≤ W * p from Int.mul_nonneg (by omega) (by omega))
    omega
  have h5 : 0 ≤ v2 * p := Int.mul_nonneg hv2 (by omega)
  have e1 : g * V = g * (v1 * W + v2) * p + g * vl := by rw [hV]; grind
  have e2 : V = v1 * (W * p) + v2 * p + vl := by rw [hV]; grind
  omega
theorem g_init (hp : 0 < p) (hW : 0 < W) (hv1 : 0 < v1) (hv2 : 0 ≤ v2) (hV : V = (v1 * W + v2) * p + vl) (hvl : 0 ≤ vl) (hR : R = (top * W + u2) * p + rl) (hu2 : u2 < W) (hrl : rl < p)
    (ht : top = g * v1 + rest) (hr : rest < v1) (hg : 0 ≤ g) : R < (g + 1) * V := by
  have h1 : (top + 1) * (W * p) ≤ (g + 1) * v1 * (W * p) := Int.mul_le_mul_of_nonneg_right (by have e : (g + 1) * v1 = g * v1 + v1 := (by grind); omega) (Int.mul_nonneg (by omega) (by omega))
  have h2 : 0 ≤ (g + 1) * (v2 * p + vl) := Int.mul_nonneg (by omega) (by have := Int.mul_nonneg hv2 (Int.le_of_lt hp); omega)
  have h3 := Int.mul_le_mul_of_nonneg_right (show u2 + 1 ≤ W by omega) (Int.le_of_lt hp)
  have e1 : (g + 1) * V = (g + 1) * v1 * (W * p) + (g + 1) * (v2 * p + vl) := by rw [hV]; grind
  have e2 : R = top * (W * p) + u2 * p + rl := by rw [hR]; grind
  have e3 : (top + 1) * (W * p) = top * (W * p) + W * p := by grind
  have e4 : (u2 + 1) * p = u2 * p + p := by grind
  omega
end
theorem b2_tm {b v u : List Int} {n m : Nat} {V R v1 v2 u2 top p vl rl g0 r0 : Int} (hb : b.length = m) (hv : v.length = m) (hm : 2 ≤ m) (hu : n + m < u.length) (hul : u.length ≤ 35184372088832)
    (e1 : v.getD (m - 1) 0 = v1) (e2 : v.getD (m - 2) 0 = v2) (e3 : u.getD (n + m - 2) 0 = u2) (hv1 : 0 < v1 ∧ v1 < 4294967296) (hv2 : 0 ≤ v2 ∧ v2 < 4294967296) (hu2 : 0 ≤ u2 ∧ u2 < 4294967296)
    (hp : 0 < p) (hV : V = (v1 * 4294967296 + v2) * p + vl) (hvl : 0 ≤ vl ∧ vl < p) (hR : R = (top * 4294967296 + u2) * p + rl) (hrl : 0 ≤ rl ∧ rl < p) (hRV : R < 4294967296 * V)
    (ht : top = g0 * v1 + r0) (hr0 : 0 ≤ r0 ∧ r0 < v1) (hg0 : 0 ≤ g0 ∧ g0 < 18446744073709551616) :
    Tm (fun N => loopM (bdivide_b2 N b v u n) N (g0, r0)) (fun g => 0 ≤ g ∧ g < 4294967296 ∧ R < (g + 1) * V ∧ g * V ≤ R + V) := by
  have htop := g_top hp (by decide) hv2.2 hV hvl.2 hR hu2.1 hrl.1 hRV
  have hV0 : 0 ≤ V := by
    have h1 := Int.mul_nonneg (show 0 ≤ v1 * 4294967296 + v2 by omega) (Int.le_of_lt hp)
    omega
  refine Tm.loop (fun t : Int × Int => 0 ≤ t.1 ∧ t.1 < 18446744073709551616 ∧ 0 ≤ t.2 ∧ t.2 < 4294967296 ∧ top = t.1 * v1 + t.2 ∧ R < (t.1 + 1) * V) (fun t => t.1.toNat)
    ⟨hg0.1, hg0.2, hr0.1, by omega, ht, g_init hp (by decide) hv1.1 hv2.1 hV hvl.1 hR hu2.2 hrl.2 ht hr0.2 hg0.1⟩ ?_
  rintro ⟨g, rest⟩ ⟨g1, g2, r1, r2, ht, hRg⟩
  dsimp only [bdivide_b2] at *
  have ev2 : uw v2 = v2 := uw_id hv2.1 (by omega)
  have eu2 : uw u2 = u2 := uw_id hu2.1 (by omega)
  have ev1 : uw v1 = v1 := uw_id (by omega) (by omega)
  refine Tm.bind (Q := (· = decide (4294967295 < g ∨ rest * 4294967296 + u2 < g * v2))) (Tm.ite (fun h => Tm.pure ?_) (fun h => ?_)) ?_
  · simp [show 4294967295 < g from h]
  · refine Tm.step (idx_g (n := m - 2) (by rw [iw_eq] <;> omega) (by omega)) (Tm.step (idx_g (n := n + m - 2) (by rw [show iw ((n : Int) + (b.length : Int)) = (n : Int) + m by rw [iw_eq] <;> omega, iw_eq] <;> omega) (by omega)) (Tm.pure ?_))
    rw [e2, e3, ev2, eu2, bor_hi r1 r2 hu2.1 hu2.2]
    have hgv : 0 ≤ g * v2 ∧ g * v2 ≤ 4294967295 * 4294967295 := ⟨Int.mul_nonneg g1 hv2.1, Int.mul_le_mul (by omega) (by omega) hv2.1 (by decide)⟩
    rw [uw_id hgv.1 (by omega)]
    have : ¬ 4294967295 < g := h
    simp [this]
  rintro _ rfl
  refine Tm.ite (fun h => ?_) (fun h => Tm.pure ?_)
  · have h := of_decide_eq_true h
    have hgp : 0 < g := by
      rcases h with h | h
      · omega
      · rcases Int.lt_or_le 0 g with h' | h'
        · exact h'
        · have : g = 0 := by omega
          subst this
          simp at h; omega
    have hRg' : R < g * V := by
      rcases h with h | h
      · have := Int.mul_le_mul_of_nonneg_right (show 4294967296 ≤ g by omega) hV0
        omega
      · exact g_dec hp hV hvl.1 hR hrl.2 ht g1 h
    have ht' : top = (g - 1) * v1 + (rest + v1) := by rw [ht]; grind
    refine Tm.step (idx_g (n := m - 1) (by rw [iw_eq] <;> omega) (by omega)) ?_
    rw [e1, ev1, uw_id (show 0 ≤ g - 1 by omega) (by omega), uw_id (show 0 ≤ rest + v1 by omega) (by omega)]
    refine Tm.ite (fun h1 => Tm.pure ?_) (fun h1 => Tm.pure ⟨⟨by dsimp only; omega, by dsimp only; omega, by dsimp only; omega, by dsimp only; omega, ht', ?_⟩, ?_⟩)
    · have hgW := g_small hv1.1 ht' (show 4294967296 ≤ rest + v1 by omega) htop
      have := g_brk hp (by decide) hv2.1 hv2.2 hV hvl.1 hvl.2 hR hu2.1 hrl.1 ht' (show 4294967296 ≤ rest + v1 by omega) (by omega) hgW
      refine ⟨by omega, hgW, ?_, by omega⟩
      rw [show g - 1 + 1 = g by omega]; exact hRg'
    · show R < (g - 1 + 1) * V
      rw [show g - 1 + 1 = g by omega]; exact hRg'
    · show (g - 1).toNat < g.toNat
      omega
  · have h : ¬ (4294967295 < g ∨ rest * 4294967296 + u2 < g * v2) := fun e => h (by simpa using e)
    refine ⟨g1, by omega, hRg, ?_⟩
    exact g_end hp (by decide) hv1.1 hv2.1 hV hvl.1 hvl.2 hR hrl.1 ht g1 (by omega) (by omega)
end Go.D
