/-
  Division: the parts. Plain theorems.
-/
import Derived.Test.YthmoefciofnmdaaDoorM3
import Derived.Test.YthmoefciofnmdaaDoorPB
set_option linter.unusedSimpArgs false
set_option linter.unusedVariables false
namespace Go.D
open Go Go.X
theorem tab256 : ∀ i, i < 256 → len32_lit256.getD i 0 ≤ 8 ∧ (0 < i → 0 < (len32_lit256.getD i 0).toNat ∧ 2 ^ ((len32_lit256.getD i 0).toNat - 1) ≤ i ∧ i < 2 ^ (len32_lit256.getD i 0).toNat) := by decide +kernel
theorem tab256_len : len32_lit256.length = 256 := by decide +kernel
theorem bshr_u32 {x : Int} {n : Nat} (h : n ≤ 32) : bshr .u32 x n = x / 2 ^ n := by
  unfold bshr
  rw [show min ((n : Int)).toNat IntKind.u32.bits = n by show min _ 32 = n; omega]
  exact Int.fdiv_eq_ediv_of_nonneg _ (Int.le_of_lt (Int.pow_pos (by decide)))
theorem len32_tm {x : Int} (h0 : 0 < x) (h1 : x < 4294967296) : Tm (fun N => len32 N x) (fun r => ∃ k : Nat, r = k ∧ 0 < k ∧ k ≤ 32 ∧ 2 ^ (k - 1) ≤ x ∧ x < 2 ^ k) := by
  unfold len32
  refine Tm.bind (Q := fun p : Int × Int => ∃ m : Nat, p.2 = m ∧ m ≤ 16 ∧ 0 < p.1 ∧ p.1 < 65536 ∧ p.1 * 2 ^ m ≤ x ∧ x < (p.1 + 1) * 2 ^ m) (Tm.ite (fun h => Tm.pure ?_) (fun h => Tm.pure ?_)) ?_
  · refine ⟨16, rfl, by decide, ?_⟩
    rw [show bshr .u32 x 16 = x / 2 ^ 16 from bshr_u32 (n := 16) (by decide)]
    have e : (2 : Int) ^ 16 = 65536 := by decide
    dsimp only
    rw [e]; omega
  · exact ⟨0, rfl, by decide, h0, by dsimp only; omega, by simp, by dsimp only; omega⟩
  rintro ⟨y, _⟩ ⟨m, rfl, hm, y0, y1, hy, hy'⟩
  dsimp only at *
  refine Tm.bind (Q := fun p : Int × Int => ∃ m : Nat, p.2 = m ∧ m ≤ 24 ∧ 0 < p.1 ∧ p.1 < 256 ∧ p.1 * 2 ^ m ≤ x ∧ x < (p.1 + 1) * 2 ^ m) (Tm.ite (fun h => Tm.pure ?_) (fun h => Tm.pure ?_)) ?_
  · refine ⟨m + 8, by dsimp only; rw [iw_eq] <;> omega, by omega, ?_⟩
    rw [show bshr .u32 y 8 = y / 2 ^ 8 from bshr_u32 (n := 8) (by decide)]
    have e : (2 : Int) ^ 8 = 256 := by decide
    have hp : (0 : Int) < 2 ^ m := Int.pow_pos (by decide)
    dsimp only
    rw [Int.pow_add, e]
    refine ⟨by omega, by omega, ?_, ?_⟩
    · have : y / 256 * 256 * 2 ^ m ≤ y * 2 ^ m := Int.mul_le_mul_of_nonneg_right (by omega) (by omega)
      have e2 : y / 256 * (2 ^ m * 256) = y / 256 * 256 * 2 ^ m := by grind
      omega
    · have : (y + 1) * 2 ^ m ≤ (y / 256 + 1) * 256 * 2 ^ m := Int.mul_le_mul_of_nonneg_right (by omega) (by omega)
      have e2 : (y / 256 + 1) * (2 ^ m * 256) = (y / 256 + 1) * 256 * 2 ^ m := by grind
      omega
  · exact ⟨m, rfl, by omega, y0, by dsimp only; omega, hy, hy'⟩
  rintro ⟨z, _⟩ ⟨m, rfl, hm, z0, z1, hz, hz'⟩
  dsimp only at *
  have hu : uw8 z = (z.toNat : Int) := by unfold uw8; rw [show IntKind.u8.wrap z = z % 256 from wu8]; omega
  refine Tm.step (idx_i (n := z.toNat) hu (by rw [tab256_len]; omega)) (Tm.pure ?_)
  obtain ⟨t1, t2⟩ := tab256 z.toNat (by omega)
  rw [List.getD_eq_getElem?_getD, List.getElem?_eq_getElem (by rw [tab256_len]; omega)] at t1 t2
  simp only [Option.getD_some] at t1 t2
  generalize len32_lit256[z.toNat]'(by rw [tab256_len]; omega) = t at *
  obtain ⟨p0, p1, p2⟩ := t2 (by omega)
  have t1' : t.toNat ≤ 8 := by simpa [UInt8.le_iff_toNat_le] using t1
  have e1 : iw (t.toNat : Int) = t.toNat := by rw [iw_eq] <;> omega
  rw [e1]
  have hp : (0 : Int) < 2 ^ m := Int.pow_pos (by decide)
  have p1' : ((2 : Int) ^ (t.toNat - 1)) ≤ z := by
    have h : ((2 ^ (t.toNat - 1) : Nat) : Int) ≤ (z.toNat : Int) := Int.ofNat_le.2 p1
    rw [Int.toNat_of_nonneg (by omega), Int.natCast_pow] at h
    exact h
  have p2' : z + 1 ≤ (2 : Int) ^ t.toNat := by
    have h : (z.toNat : Int) < ((2 ^ t.toNat : Nat) : Int) := Int.ofNat_lt.2 p2
    rw [Int.toNat_of_nonneg (by omega), Int.natCast_pow] at h
    exact h
  refine ⟨m + t.toNat, by rw [iw_eq] <;> omega, by omega, by omega, ?_, ?_⟩
  · rw [show m + t.toNat - 1 = (t.toNat - 1) + m by omega, Int.pow_add]
    exact Int.le_trans (Int.mul_le_mul_of_nonneg_right p1' (by omega)) hz
  · rw [Nat.add_comm, Int.pow_add]
    exact Int.lt_of_lt_of_le hz' (Int.mul_le_mul_of_nonneg_right p2' (by omega))
theorem lz32_tm {x : Int} (h0 : 0 < x) (h1 : x < 4294967296) : Tm (fun N => lz32 N x) (fun r => ∃ s : Nat, r = s ∧ s ≤ 31 ∧ 2147483648 ≤ x * 2 ^ s ∧ x * 2 ^ s < 4294967296) := by
  unfold lz32
  refine Tm.bind (len32_tm h0 h1) ?_
  rintro _ ⟨k, rfl, k0, k1, hk, hk'⟩
  refine Tm.pure ⟨32 - k, by rw [iw_eq] <;> omega, by omega, ?_, ?_⟩
  · have := Int.mul_le_mul_of_nonneg_right hk (show (0 : Int) ≤ 2 ^ (32 - k) from Int.le_of_lt (Int.pow_pos (by decide)))
    rw [← Int.pow_add, show k - 1 + (32 - k) = 31 by omega] at this
    exact this
  · have := Int.mul_lt_mul_of_pos_right hk' (show (0 : Int) < 2 ^ (32 - k) from Int.pow_pos (by decide))
    rw [← Int.pow_add, show k + (32 - k) = 32 by omega] at this
    exact this
end Go.D
namespace Go.D
open Go Go.X
theorem bor_add {k : IntKind} {x y n : Nat} (hx : k.wrap (x : Int) = x) (hy : k.wrap (y : Int) = y) (h : x < 2 ^ n) (hm : 2 ^ n ∣ y) : bor k x y = ((x + y : Nat) : Int) := by
  rw [bor_nat hx hy]
  obtain ⟨q, rfl⟩ := hm
  rw [Nat.or_comm, ← Nat.two_pow_add_eq_or_of_lt h, Nat.add_comm]
theorem getD_set {l : List Int} {n m : Nat} {y : Int} (h : n < l.length) : (l.set n y).getD m 0 = if n = m then y else l.getD m 0 := by
  rw [List.getD_eq_getElem?_getD, List.getD_eq_getElem?_getD, List.getElem?_set]
  by_cases e : n = m
  · subst e; simp [h]
  · simp [e]
theorem w32_nat {z : Nat} (h : z < 4294967296) : IntKind.u32.wrap (z : Int) = z := by rw [show IntKind.u32.wrap (z : Int) = (z : Int) % 4294967296 from wu32]; omega
theorem pow_dvd32 {s : Nat} (h : s ≤ 31) : (2 : Int) ^ s * 2 ^ (32 - s) = 4294967296 := by rw [← Int.pow_add, show s + (32 - s) = 32 by omega]; decide
theorem bshift_tm {a : List Int} {n : Int} {s : Nat} (hn : n = s) (hs : s ≤ 31) (ha : InB W32 a) (hl : a.length ≤ 17592186044416) : Tm (fun N => bshift N a n) (fun r => InB W32 r ∧ val W32 r = val W32 a * 2 ^ s ∧ r.length = a.length + 1) := by
  unfold bshift
  subst hn
  have hP : (0 : Int) < 2 ^ s := Int.pow_pos (by decide)
  have hQ : (0 : Int) < 2 ^ (32 - s) := Int.pow_pos (by decide)
  have hPQ := pow_dvd32 hs
  refine Tm.step (mk1_ok (n := a.length + 1) (by rw [iw_eq] <;> omega) (by omega) (by decide)) ?_
  refine Tm.bind (Q := fun r => InB W32 r ∧ val W32 r = val W32 a * 2 ^ s ∧ r.length = a.length + 1)
    (Tm.loop (fun t : List Int × Int => ∃ k : Nat, t.2 = k ∧ k ≤ a.length ∧ t.1.length = a.length + 1 ∧ InB W32 t.1 ∧ t.1.getD k 0 < 2 ^ s ∧ val W32 (t.1.take (k + 1)) = val W32 (a.take k) * 2 ^ s) (fun t => a.length - t.2.toNat)
      ⟨0, rfl, Nat.zero_le _, by simp, InB.rep (by decide), ?_, ?_⟩ ?_) (fun r h => Tm.pure h)
  · show (List.replicate (a.length + 1) (0 : Int)).getD 0 0 < _
    simpa using hP
  · show val W32 ((List.replicate (a.length + 1) (0 : Int)).take 1) = _
    rw [List.take_replicate, val_rep]; simp [val]
  rintro ⟨out, i⟩ ⟨k, rfl, hk, ho, hB, hc, hv⟩
  dsimp only [bshift_b1] at *
  refine Tm.ite (fun h => ?_) (fun h => Tm.pure ?_)
  · have hx := ha.get (n := k) (by omega)
    have ex : a.getD k 0 = a[k]'(by omega) := getD_ok (by omega)
    refine Tm.step (idx_ok (by omega)) (Tm.step (chk_ok (by omega)) (Tm.step (idx_ok (by omega)) (Tm.step (idx_ok (by omega)) ?_)))
    generalize a[k]'(by omega) = x at *
    have hco := hB.get (n := k) (by omega)
    have eo : out.getD k 0 = out[k]'(by omega) := getD_ok (by omega)
    have hvs := fun y => take_set (l := out) (n := k) (y := y) (by omega)
    rw [eo] at hc
    rw [val_take, eo] at hv
    generalize out[k]'(by omega) = c at *
    simp only [W32] at hx
    have hw0 : 0 ≤ x * 2 ^ s := Int.mul_nonneg hx.1 (by omega)
    have hP31 : (2 : Int) ^ s ≤ 2147483648 := by
      have := pow_mono (B := 2) (by decide) hs
      exact this
    have hw1 : x * 2 ^ s ≤ 4294967295 * 2147483648 := Int.mul_le_mul (by omega) hP31 (by omega) (by decide)
    have ew : bshl .u64 (uw x) s = x * 2 ^ s := by
      unfold bshl
      rw [show uw x = x by rw [uw_mod]; omega, show min ((s : Int)).toNat IntKind.u64.bits = s by show min _ 64 = s; omega]
      rw [show IntKind.u64.wrap (x * 2 ^ s) = (x * 2 ^ s) % 18446744073709551616 from wu]; omega
    rw [ew, bshr32, uw32_mod]
    have hlo : (x * 2 ^ s) % 4294967296 = (x % 2 ^ (32 - s)) * 2 ^ s := by
      rw [← hPQ, Int.mul_comm x, Int.mul_emod_mul_of_pos _ _ hP, Int.mul_comm]
    have hhi : x * 2 ^ s / 4294967296 = x / 2 ^ (32 - s) := by
      rw [← hPQ, Int.mul_comm ((2 : Int) ^ s) (2 ^ (32 - s)), Int.mul_ediv_mul_of_pos_left _ _ hP]
    have hhi1 : x / 2 ^ (32 - s) < 2 ^ s := Int.ediv_lt_of_lt_mul hQ (by rw [hPQ]; omega)
    have hhi0 : 0 ≤ x / 2 ^ (32 - s) := Int.ediv_nonneg hx.1 (by omega)
    have hlo0 : 0 ≤ x % 2 ^ (32 - s) := Int.emod_nonneg _ (by omega)
    have hlo1 : x % 2 ^ (32 - s) + 1 ≤ 2 ^ (32 - s) := Int.emod_lt_of_pos _ hQ
    have hlo2 : (x % 2 ^ (32 - s)) * 2 ^ s + 2 ^ s ≤ 4294967296 := by
      have := Int.mul_le_mul_of_nonneg_right hlo1 (show (0 : Int) ≤ 2 ^ s by omega)
      rw [Int.mul_comm (2 ^ (32 - s)) (2 ^ s), hPQ] at this
      grind
    have hor : bor .u32 c ((x * 2 ^ s) % 4294967296) = c + (x % 2 ^ (32 - s)) * 2 ^ s := by
      rw [hlo]
      obtain ⟨cn, rfl⟩ := Int.eq_ofNat_of_zero_le hco.1
      obtain ⟨ln, hln⟩ := Int.eq_ofNat_of_zero_le hlo0
      rw [hln]
      have e1 : (ln : Int) * 2 ^ s = ((ln * 2 ^ s : Nat) : Int) := by simp
      have hl0 : 0 ≤ (ln : Int) * 2 ^ s := Int.mul_nonneg (by omega) (by omega)
      rw [hln] at hlo2
      rw [e1] at hlo2 ⊢
      simp only [W32] at hco
      rw [bor_add (n := s) (w32_nat (by omega)) (w32_nat (by omega)) (by have : ((cn : Nat) : Int) < ((2 ^ s : Nat) : Int) := (by simpa using hc); omega) (Nat.dvd_mul_left _ _)]
      omega
    rw [hor]
    refine Tm.step (upd1_i rfl (by omega)) ?_
    have hB1 : InB W32 (out.set k (c + (x % 2 ^ (32 - s)) * 2 ^ s)) := hB.set (by
      have : 0 ≤ (x % 2 ^ (32 - s)) * 2 ^ s := Int.mul_nonneg hlo0 (by omega)
      simp only [W32] at *; omega)
    have hi1 : iw ((k : Int) + 1) = ((k + 1 : Nat) : Int) := by rw [iw_eq] <;> omega
    refine Tm.step (idx_i hi1 (by simp; omega)) (Tm.step (upd1_i hi1 (by simp; omega)) ?_)
    have ehi : uw32 (x * 2 ^ s / 4294967296) = x / 2 ^ (32 - s) := by rw [hhi, uw32_mod]; omega
    rw [ehi]
    refine Tm.pure ⟨⟨k + 1, hi1, by omega, by simp; omega, hB1.set (by simp only [W32]; omega), ?_, ?_⟩, ?_⟩
    · show (((out.set k _).set (k + 1) _).getD (k + 1) 0) < 2 ^ s
      rw [getD_set (by simp; omega), if_pos rfl]; exact hhi1
    · show val W32 (((out.set k _).set (k + 1) _).take (k + 1 + 1)) = _
      rw [take_set (by simp; omega), hvs, val_take, ex, Int.pow_succ]
      have := Int.emod_add_mul_ediv x (2 ^ (32 - s))
      have hw : W32 = 2 ^ s * 2 ^ (32 - s) := hPQ.symm
      have e3 : W32 ^ k * W32 * (x / 2 ^ (32 - s)) = W32 ^ k * (2 ^ s * (2 ^ (32 - s) * (x / 2 ^ (32 - s)))) := by
        conv => lhs; rw [Int.mul_assoc, show W32 * (x / 2 ^ (32 - s)) = 2 ^ s * 2 ^ (32 - s) * (x / 2 ^ (32 - s)) by rw [← hw]]
        rw [Int.mul_assoc]
      rw [e3]
      grind
    · show a.length - (iw ((k : Int) + 1)).toNat < a.length - ((k : Int)).toNat
      rw [hi1]; omega
  · obtain rfl : k = a.length := by omega
    rw [take_all (by omega), take_all (Nat.le_refl _)] at hv
    exact ⟨hB, hv, ho⟩
end Go.D
