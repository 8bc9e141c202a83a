/-
  The law of chapter 02 on the greatest common divisor. Plain theorems.
-/
import Derived.Test.YthmoefciofnmdaaDoorN2
set_option linter.unusedSimpArgs false
set_option linter.unusedVariables false
namespace Go.D
open Go Go.X
theorem gcd_step {x y : Int} (hx : 0 ≤ x) (hy : 0 ≤ y) : Nat.gcd y.toNat (x % y).toNat = Nat.gcd x.toNat y.toNat := by
  obtain ⟨m, rfl⟩ := Int.eq_ofNat_of_zero_le hx
  obtain ⟨n, rfl⟩ := Int.eq_ofNat_of_zero_le hy
  rw [← Int.natCast_emod, Int.toNat_natCast, Int.toNat_natCast, Int.toNat_natCast, Nat.gcd_comm n, ← Nat.gcd_rec, Nat.gcd_comm]
def gOf (a b : Big) : Nat := Nat.gcd (val W32 a.Digits).toNat (val W32 b.Digits).toNat
theorem bGCD_tm {a b : Big} (ha : InB W32 a.Digits) (hb : InB W32 b.Digits) (la : a.Digits.length ≤ 8) (lb : b.Digits.length ≤ 8) :
    Tm (fun N => bGCD N a b) (fun r => Is r (gOf a b : Int) ∧ r.Digits.length ≤ 8) := by
  unfold bGCD
  refine Tm.bind (btrim_tm ha (by omega)) (fun x ⟨hx, lx⟩ => Tm.bind (btrim_tm hb (by omega)) (fun y ⟨hy, ly⟩ => ?_))
  refine Tm.bind (Tm.loop (fun s : List Int × List Int => InB W32 s.1 ∧ Nrm s.1 ∧ s.1.length ≤ 8 ∧ InB W32 s.2 ∧ Nrm s.2 ∧ s.2.length ≤ 8 ∧ Nat.gcd (val W32 s.1).toNat (val W32 s.2).toNat = gOf a b) (fun s => (val W32 s.2).toNat)
    (Q := fun r => InB W32 r ∧ r.length ≤ 8 ∧ val W32 r = gOf a b) ⟨hx.inB, hx.nrm, by show x.length ≤ 8; omega, hy.inB, hy.nrm, by show y.length ≤ 8; omega, by rw [hx.val, hy.val]; rfl⟩ ?_) ?_
  · rintro ⟨u, v⟩ ⟨u1, u2, u3, v1, v2, v3, hg⟩
    dsimp only [bGCD_b1] at *
    refine Tm.ite (fun h => ?_) (fun h => Tm.pure ?_)
    · have hv0 : v ≠ [] := fun e => by rw [e] at h; simp at h
      have hvp := nrm_pos (B := W32) (by decide) v1 v2 hv0
      have hup := val_nonneg (B := W32) (by decide) u1
      refine Tm.bind (bdivide_tm u1 v1 u2 v2 (by omega) (by omega) (by omega)) (fun r ⟨_, hr, _, _⟩ => Tm.pure ?_)
      have hm := hr.val
      have h1 := Int.emod_lt_of_pos (val W32 u) hvp
      have h2 := Int.emod_nonneg (val W32 u) (show val W32 v ≠ 0 by omega)
      have h3 := val_lt (B := W32) (by decide) v1
      have hlen : r.2.length ≤ v.length := nrm_len w32_pos hr.inB hr.nrm (by rw [hm]; omega)
      exact ⟨⟨v1, v2, v3, hr.inB, hr.nrm, by show r.2.length ≤ 8; omega, by rw [hm, gcd_step hup (Int.le_of_lt hvp)]; exact hg⟩, by show (val W32 r.2).toNat < (val W32 v).toNat; rw [hm]; omega⟩
    · have hv0 : v = [] := List.length_eq_zero_iff.1 (by omega)
      have hup := val_nonneg (B := W32) (by decide) u1
      rw [hv0] at hg
      refine ⟨u1, u3, ?_⟩
      rw [← hg]; simp [val]; omega
  · rintro r ⟨r1, r2, r3⟩
    refine Tm.bind (bnormal_tm (neg := false) r1 (by omega)) (fun z ⟨hz, lz⟩ => Tm.pure ⟨?_, by omega⟩)
    rw [← r3]; exact hz
theorem rGCD_tm {a b : Big} (ha : InB W32 a.Digits) (hb : InB W32 b.Digits) (la : a.Digits.length ≤ 8) (lb : b.Digits.length ≤ 8) :
    Tm (fun N => rGCD N a b) (fun r => Is r (gOf a b : Int)) := by
  unfold rGCD
  refine Tm.bind (halves_tm ha (by omega)) (fun x ⟨hx, lx⟩ => Tm.bind (halves_tm hb (by omega)) (fun y ⟨hy, ly⟩ => ?_))
  refine Tm.bind (Tm.loop (fun s : List Int × List Int => InB W16 s.1 ∧ s.1.length ≤ 16 ∧ InB W16 s.2 ∧ Nrm s.2 ∧ s.2.length ≤ 16 ∧ Nat.gcd (val W16 s.1).toNat (val W16 s.2).toNat = gOf a b) (fun s => (val W16 s.2).toNat)
    (Q := fun r => InB W16 r ∧ r.length ≤ 16 ∧ val W16 r = gOf a b) ⟨hx.inB, by show x.length ≤ 16; omega, hy.inB, hy.nrm, by show y.length ≤ 16; omega, by rw [hx.val, hy.val]; rfl⟩ ?_) ?_
  · rintro ⟨u, v⟩ ⟨u1, u3, v1, v2, v3, hg⟩
    dsimp only [rGCD_b1] at *
    refine Tm.ite (fun h => ?_) (fun h => Tm.pure ?_)
    · have hv0 : v ≠ [] := fun e => by rw [e] at h; simp at h
      have hvp := nrm_pos (B := W16) (by decide) v1 v2 hv0
      have hup := val_nonneg (B := W16) (by decide) u1
      refine Tm.bind (rsplit_tm u1 v1 v2 hvp (by omega) (by omega)) (fun r ⟨_, hr, _, hl⟩ => Tm.pure ?_)
      have hm := hr.val
      have h1 := Int.emod_lt_of_pos (val W16 u) hvp
      have h2 := Int.emod_nonneg (val W16 u) (show val W16 v ≠ 0 by omega)
      exact ⟨⟨v1, v3, hr.inB, hr.nrm, by show r.2.length ≤ 16; omega, by rw [hm, gcd_step hup (Int.le_of_lt hvp)]; exact hg⟩, by show (val W16 r.2).toNat < (val W16 v).toNat; rw [hm]; omega⟩
    · have hv0 : v = [] := List.length_eq_zero_iff.1 (by omega)
      have hup := val_nonneg (B := W16) (by decide) u1
      rw [hv0] at hg
      refine ⟨u1, u3, ?_⟩
      rw [← hg]; simp [val]; omega
  · rintro r ⟨r1, r2, r3⟩
    refine Tm.bind (rbig_tm (neg := false) r1 (by omega)) (fun z ⟨hz, lz⟩ => Tm.pure ?_)
    rw [← r3]; exact hz
theorem rem_zero {v : Int} {g : Nat} (h : (g : Int) ∣ v) : (if (g : Int) = 0 then 0 else v.fmod g) = 0 := by
  split
  · rfl
  · rw [Int.fmod_eq_emod_of_nonneg _ (by omega)]
    exact Int.emod_eq_zero_of_dvd h
theorem dvd_bv {a : Big} (ha : InB W32 a.Digits) {g : Nat} (h : g ∣ (val W32 a.Digits).toNat) : (g : Int) ∣ bv a := by
  have h0 := val_nonneg (B := W32) (by decide) ha
  have h1 : (g : Int) ∣ val W32 a.Digits := by
    have := Int.ofNat_dvd.2 h
    rwa [Int.toNat_of_nonneg h0] at this
  unfold bv; split
  · exact Int.dvd_neg.2 h1
  · exact h1
theorem lawGCD_tm {a b : Big} (ha : InB W32 a.Digits) (hb : InB W32 b.Digits) : Tm (fun N => lawGCD N a b) (fun r => r = true) := by
  unfold lawGCD
  refine head_tm (by simp) (fun hs => ?_)
  have la : a.Digits.length ≤ 8 := hs a (by simp)
  have lb : b.Digits.length ≤ 8 := hs b (by simp)
  refine cp_tm ⟨ha, la⟩ (by decide) (cp_tm ⟨hb, lb⟩ (by decide) ?_)
  refine Tm.bind (bGCD_tm ha hb la lb) (fun d ⟨hd, ld⟩ => Tm.bind (rGCD_tm ha hb la lb) (fun e he => same_tm (K := 8) hd he ld (by decide) (Tm.neg (by decide) ?_)))
  refine cp_tm ⟨ha, la⟩ (by decide) (cp_tm ⟨hd.dg.inB, ld⟩ (by decide) ?_)
  refine Tm.bind (bDivFloor_tm ha hd.dg.inB (by omega) (by omega)) (fun x ⟨hx, l1, l2⟩ => ?_)
  refine cp_tm ⟨hb, lb⟩ (by decide) (cp_tm ⟨hd.dg.inB, ld⟩ (by decide) ?_)
  refine Tm.bind (bDivFloor_tm hb hd.dg.inB (by omega) (by omega)) (fun y ⟨hy, l3, l4⟩ => ?_)
  have ex := hx.ok
  have ey := hy.ok
  have rx := hx.rem
  have ry := hy.rem
  rw [hd.bv] at ex ey rx ry
  rw [rem_zero (g := gOf a b) (dvd_bv ha (Nat.gcd_dvd_left _ _))] at rx
  rw [rem_zero (g := gOf a b) (dvd_bv hb (Nat.gcd_dvd_right _ _))] at ry
  refine Tm.pos (by rw [ex, ey]; simp) (Tm.bind (bSign_tm hd.dg.inB (by omega)) ?_)
  rintro _ rfl
  rw [hd.bv]
  refine Tm.pos (by
    rw [ex]
    have : (sgn (gOf a b : Int) 0 ≠ 0) ↔ ((gOf a b : Int) ≠ 0) := by unfold sgn; (repeat' split) <;> omega
    simp only [this, beq_self_eq_true]) (Tm.bind (bSign_tm rx.dg.inB (by omega)) ?_)
  rintro _ rfl
  rw [rx.bv]
  refine Tm.pos (by decide) (Tm.bind (bSign_tm ry.dg.inB (by omega)) ?_)
  rintro _ rfl
  rw [ry.bv]
  exact Tm.pure (by decide)
end Go.D
