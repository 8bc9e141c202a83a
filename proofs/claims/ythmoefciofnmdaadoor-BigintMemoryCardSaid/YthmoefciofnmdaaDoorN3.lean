/-
  The law of chapter 02 on the greatest common divisor. Plain theorems.
-/
import Derived.Test.YthmoefciofnmdaaDoorN2
set_option linter.unusedSimpArgs false
set_option linter.unusedVariables false
namespace Go.D
open Go Go.X
theorem gcd_step {x y : Int} (hx : 0 ≤ x) (hy : 0 ≤ y) : Nat.gcd y.toNat (x % y).toNat = Nat.gcd x.toNat y.toNat := by
  obtain ⟨m, rfl⟩ := Int.eq_ofNat_of_zero_le hx
  obtain ⟨n, rfl⟩ := Int.eq_ofNat_of_zero_le hy
  rw [← Int.natCast_emod, Int.toNat_natCast, Int.toNat_natCast, Int.toNat_natCast, Nat.gcd_comm n, ← Nat.gcd_rec, Nat.gcd_comm]
def gOf (a b : Big) : Nat := Nat.gcd (val W32 a.Digits).toNat (val W32 b.Digits).toNat
theorem bGCD_tm {a b : Big} (ha : InB W32 a.Digits) (hb : InB W32 b.Digits) (la : a.Digits.length ≤ 8) (lb : b.Digits.length ≤ 8) :
    Tm (fun N => bGCD N a b) (fun r => Is r (gOf a b : Int) ∧ r.Digits.length ≤ 8) := by
  unfold bGCD
  refine Tm.bind (btrim_tm ha (by omega)) (fun x ⟨hx, lx⟩ => Tm.bind (btrim_tm hb (by omega)) (fun y ⟨hy, ly⟩ => ?_))
  refine Tm.bind (Tm.loop (fun s : List Int × List Int => InB W32 s.1 ∧ Nrm s.1 ∧ s.1.length ≤ 8 ∧ InB W32 s.2 ∧ Nrm s.2 ∧ s.2.length ≤ 8 ∧ Nat.gcd (val W32 s.1).toNat (val W32 s.2).toNat = gOf a b) (fun s => (val W32 s.2).toNat)
    (Q := fun r => InB W32 r ∧ r.length ≤ 8 ∧ val W32 r = gOf a b) ⟨hx.inB, hx.nrm, by show x.length ≤ 8; omega, hy.inB, hy.nrm, by show y.length ≤ 8; omega, by rw [hx.val, hy.val]; rfl⟩ ?_) ?_
  · rintro ⟨u, v⟩ ⟨u1, u2, u3, v1, v2, v3, hg⟩
    dsimp only [bGCD_b1] at *
    refine Tm.ite (fun h => ?_) (fun h => Tm.pure ?_)
    · have hv0 : v ≠ [] := fun e => by rw [e] at h; simp at h
      have hvp := nrm_pos (B := W32) (by decide) v1 v2 hv0
      have hup := val_nonneg (B := W32) (by decide) u1
      refine Tm.bind (bdivide_tm u1 v1 u2 v2 (by omega) (by omega) (by omega)) (fun r ⟨_, hr, _, _⟩ => Tm.pure ?_)
      have hm := hr.val
      have h1 := Int.emod_lt_of_pos (val W32 u) hvp
      have h2 := Int.emod_nonneg (val W32 u) (show val W32 v ≠ 0 by omega)
      have h3 := val_lt (B := W32) (by decide) v1
      have hlen : r.2.length ≤ v.length := nrm_len w32_pos hr.inB hr.nrm (by rw [hm]; omega)
      exact ⟨⟨v1, v2, v3, hr.inB, hr.nrm, by show r.2.length ≤ 8; omega, by rw [hm, gcd_step hup (Int.le_of_lt hvp)]; exact hg⟩, by show (val W32 r.2).toNat < (val W32 v).toNat; rw [hm]; omega⟩
    · have hv0 : v = [] := List.length_eq_zero_iff.1 (by omega)
      have hup := val_nonneg (B := W32) (by decide) u1
      rw [hv0] at hg
      refine ⟨u1, u3, ?_⟩
      rw [← hg]; simp [val]; omega
  · rintro r ⟨r1, r2, r3⟩
    refine Tm.bind (bnormal_tm (neg := false) r1 (by omega)) (fun z ⟨hz, lz⟩ => Tm.pure ⟨?_, by omega⟩)
    rw [← r3]; exact hz
end Go.D
