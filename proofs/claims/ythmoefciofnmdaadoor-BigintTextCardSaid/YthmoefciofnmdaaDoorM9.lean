/-
  Division: long division digit by digit. Plain theorems.
-/
import Derived.Test.YthmoefciofnmdaaDoorM8
set_option linter.unusedSimpArgs false
set_option linter.unusedVariables false
namespace Go.D
open Go Go.X
theorem idx_g {xs : List Int} {i : Int} {n : Nat} (e : i = (n : Int)) (h : n < xs.length) : idx xs i = some (xs.getD n 0) := by
  rw [getD_ok h]; exact idx_i e h
theorem sdiv_ok {k : IntKind} {x y : Int} (h : y ≠ 0) : sdiv k x y = some (k.wrap (x.tdiv y)) := by unfold sdiv; rw [if_neg h]
theorem srem_ok {x y : Int} (h : y ≠ 0) : srem x y = some (x.tmod y) := by unfold srem; rw [if_neg h]
theorem u64_nat {z : Nat} (h : z < 18446744073709551616) : IntKind.u64.wrap (z : Int) = z := by rw [show IntKind.u64.wrap (z : Int) = (z : Int) % 18446744073709551616 from wu]; omega
theorem bshl32 {x : Int} (h0 : 0 ≤ x) (h1 : x < 4294967296) : bshl .u64 x 32 = x * 4294967296 := by
  unfold bshl
  rw [show ((2 : Int) ^ (min (32 : Int).toNat IntKind.u64.bits)) = 4294967296 from rfl]
  rw [show IntKind.u64.wrap (x * 4294967296) = (x * 4294967296) % 18446744073709551616 from wu]; omega
theorem bor_hi {x y : Int} (h0 : 0 ≤ x) (h1 : x < 4294967296) (h2 : 0 ≤ y) (h3 : y < 4294967296) : bor .u64 (bshl .u64 x 32) y = x * 4294967296 + y := by
  rw [bshl32 h0 h1]
  obtain ⟨a, rfl⟩ := Int.eq_ofNat_of_zero_le h0
  obtain ⟨b, rfl⟩ := Int.eq_ofNat_of_zero_le h2
  rw [show (a : Int) * 4294967296 = ((a * 2 ^ 32 : Nat) : Int) by simp]
  rw [bor_nat (u64_nat (by omega)) (u64_nat (by omega)), ← Nat.shiftLeft_eq, ← Nat.shiftLeft_add_eq_or_of_lt (by omega), Nat.shiftLeft_eq]
  omega
theorem uw_id {z : Int} (h0 : 0 ≤ z) (h1 : z < 18446744073709551616) : uw z = z := by rw [uw_mod]; omega
theorem tdivP {x y : Int} (h : 0 ≤ x) : x.tdiv y = x / y := Int.tdiv_eq_ediv_of_nonneg h
theorem tmodP {x y : Int} (h : 0 ≤ x) : x.tmod y = x % y := Int.tmod_eq_emod_of_nonneg h
theorem bshort_tm {a : List Int} {y : Int} (ha : InB W32 a) (h0 : 0 < y) (h1 : y < W32) (hl : a.length ≤ 17592186044416) :
    Tm (fun N => bshort N a y) (fun r => InB W32 r.1 ∧ val W32 r.1 = val W32 a / y ∧ r.2 = val W32 a % y ∧ r.1.length = a.length) := by
  unfold bshort
  refine Tm.step (mk1_ok rfl (by omega) (by decide)) ?_
  refine Tm.bind (Q := fun r : List Int × Int => InB W32 r.1 ∧ r.1.length = a.length ∧ 0 ≤ r.2 ∧ r.2 < y ∧ val W32 r.1 * y + r.2 = val W32 a)
    (Tm.loop (fun t : List Int × Int × Int => ∃ k : Nat, t.2.2 = (k : Int) - 1 ∧ k ≤ a.length ∧ t.1.length = a.length ∧ InB W32 t.1 ∧ 0 ≤ t.2.1 ∧ t.2.1 < y ∧ (∀ j, j < k → t.1.getD j 0 = 0) ∧ val W32 t.1 * y + W32 ^ k * t.2.1 + val W32 (a.take k) = val W32 a) (fun t => (t.2.2 + 1).toNat)
      ⟨a.length, by rw [iw_eq] <;> omega, Nat.le_refl _, by simp, InB.rep (by decide), by simp, h0, fun j hj => by rw [getD_ok (by simpa using hj)]; simp, by rw [take_all (Nat.le_refl _), val_rep]; simp⟩ ?_) ?_
  · rintro ⟨out, rest, i⟩ ⟨k, rfl, hk, ho, hB, r0, r1, hz, hv⟩
    dsimp only [bshort_b1] at *
    refine Tm.ite (fun h => ?_) (fun h => Tm.pure ?_)
    · obtain ⟨n, rfl⟩ : ∃ n, k = n + 1 := ⟨k - 1, by omega⟩
      have hi : ((n + 1 : Nat) : Int) - 1 = (n : Int) := by omega
      rw [hi]
      have hx := ha.getD (by decide) n
      have hvt := val_take (B := W32) (l := a) (n := n)
      refine Tm.step (idx_g rfl (by omega)) ?_
      generalize a.getD n 0 = x at *
      simp only [W32] at hx h1
      have ex : uw x = x := uw_id hx.1 (by omega)
      have ey : uw y = y := uw_id (by omega) (by omega)
      rw [ex, ey, bor_hi r0 (by omega) hx.1 hx.2]
      have hT0 : 0 ≤ rest * 4294967296 + x := by omega
      have hq1 : (rest * 4294967296 + x) / y < 4294967296 := Int.ediv_lt_of_lt_mul h0 (by
        have := Int.mul_le_mul_of_nonneg_right (show rest + 1 ≤ y by omega) (show (0 : Int) ≤ 4294967296 by decide)
        rw [Int.mul_comm 4294967296 y]; omega)
      have hq0 : 0 ≤ (rest * 4294967296 + x) / y := Int.ediv_nonneg hT0 (by omega)
      refine Tm.step (sdiv_ok (by omega)) (Tm.step (idx_g rfl (by omega)) (Tm.step (upd1_i rfl (by omega)) (Tm.step (srem_ok (by omega)) (Tm.pure ?_))))
      rw [tdivP hT0, tmodP hT0, show IntKind.u64.wrap ((rest * 4294967296 + x) / y) = (rest * 4294967296 + x) / y from uw_id hq0 (by omega), show uw32 ((rest * 4294967296 + x) / y) = (rest * 4294967296 + x) / y by rw [uw32_mod]; omega]
      have hm0 := Int.emod_nonneg (rest * 4294967296 + x) (show y ≠ 0 by omega)
      have hm1 := Int.emod_lt_of_pos (rest * 4294967296 + x) h0
      have hd := Int.emod_add_mul_ediv (rest * 4294967296 + x) y
      refine ⟨⟨n, by show iw ((n : Int) - 1) = _; rw [iw_eq] <;> omega, by omega, by simp; omega, hB.set (by simp only [W32]; omega), hm0, hm1, fun j hj => ?_, ?_⟩, ?_⟩
      · show (out.set n _).getD j 0 = 0
        rw [getD_set (by omega), if_neg (by omega)]; exact hz j (by omega)
      · show val W32 (out.set n _) * y + W32 ^ n * ((rest * 4294967296 + x) % y) + val W32 (a.take n) = _
        have hon : out[n]'(by omega) = 0 := by have := hz n (by omega); rwa [getD_ok (by omega)] at this
        rw [val_set (by omega), hon]
        rw [Int.pow_succ] at hv
        have hw : W32 = 4294967296 := rfl
        generalize (rest * 4294967296 + x) / y = q at *
        generalize (rest * 4294967296 + x) % y = t at *
        rw [← hv, hvt]
        have e1 : W32 ^ n * W32 * rest = W32 ^ n * (rest * 4294967296) := by rw [hw]; grind
        have e2 : W32 ^ n * (t + y * q) = W32 ^ n * (rest * 4294967296 + x) := by rw [hd]
        rw [e1]
        grind
      · show (iw ((n : Int) - 1) + 1).toNat < ((n : Int) + 1).toNat
        rw [iw_eq] <;> omega
    · obtain rfl : k = 0 := by omega
      refine ⟨hB, ho, r0, r1, ?_⟩
      simpa [val] using hv
  · rintro ⟨out, rest⟩ ⟨hB, ho, r0, r1, hv⟩
    dsimp only at *
    simp only [W32] at h1
    refine Tm.pure ⟨hB, ?_, ?_, ho⟩
    · show val W32 out = _
      rw [← hv, Int.add_comm, Int.add_mul_ediv_right _ _ (by omega), Int.ediv_eq_zero_of_lt r0 r1]; omega
    · show uw32 rest = _
      rw [uw32_mod, ← hv, Int.add_comm, Int.add_mul_emod_self_right, Int.emod_eq_of_lt r0 r1]; omega
end Go.D
