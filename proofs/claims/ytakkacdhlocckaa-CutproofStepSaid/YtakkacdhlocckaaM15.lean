/-
  Checking a proof, by both programs; a proof that is accepted is right. Plain theorems.
-/
import Derived.Test.YtakkacdhlocckaaM14
namespace Go.D
open Go Go.X
theorem ApplyP.ok {K : Nat} {l : List Ineq} {s : Step} (hK : K ≤ 536870912) (hl : l.length ≤ 1073741824) (hq : ∀ q ∈ l, OkI K q) (hs : OkS s) {r : Ineq × Bool} (h : ApplyP l s r) : OkI (K + 20) r.1 := by
  obtain ⟨N, a, _, ha, hb⟩ := (cApply_tm hK hl hq hs).get
  rw [h.uniq ha]; exact hb
theorem OkI.mono {K K' : Nat} {q : Ineq} (h : OkI K q) (hK : K ≤ K') : OkI K' q := ⟨by have := h.1; omega, fun b hb => (h.2.1 b hb).mono hK, h.2.2.mono hK⟩
def dotF (f g : Nat → Int) : Nat → Int
  | 0 => 0
  | n + 1 => dotF f g n + f n * g n
def cf (q : Ineq) (j : Nat) : Int := bv (q.Coefs.getD j big0)
def Sat (n : Nat) (x : Nat → Int) (q : Ineq) : Prop := q.Coefs.length = n ∧ dotF (cf q) x n ≤ bv q.Bound
theorem dotF_congr {f f' g : Nat → Int} : ∀ {n : Nat}, (∀ j, j < n → f j = f' j) → dotF f g n = dotF f' g n
  | 0, _ => rfl
  | n + 1, h => by simp only [dotF]; rw [dotF_congr (n := n) (fun j hj => h j (by omega)), h n (by omega)]
theorem dotF_add {f h g : Nat → Int} {k : Int} : ∀ n, dotF (fun j => f j + k * h j) g n = dotF f g n + k * dotF h g n
  | 0 => by simp [dotF]
  | n + 1 => by simp only [dotF, dotF_add n]; grind
theorem dotF_mul {f g : Nat → Int} {k : Int} : ∀ n, dotF (fun j => k * f j) g n = k * dotF f g n
  | 0 => by simp [dotF]
  | n + 1 => by simp only [dotF, dotF_mul n]; grind
theorem dotF_zero {g : Nat → Int} : ∀ n, dotF (fun _ => 0) g n = 0
  | 0 => rfl
  | n + 1 => by simp [dotF, dotF_zero n]
theorem sum_sat {l : List Ineq} {x : Nat → Int} (hl : ∀ q ∈ l, Sat (nV l) x q) : ∀ (us : List Use) (a r : (Nat → Int) × Int), sumF l us a = some r → dotF a.1 x (nV l) ≤ a.2 → dotF r.1 x (nV l) ≤ r.2
  | [], a, r, h, ha => by cases h; exact ha
  | u :: us, a, r, h, ha => by
    simp only [sumF] at h
    split at h
    · cases h
    · rename_i hb
      have hi : 0 ≤ u.Index ∧ u.Index < l.length ∧ 0 ≤ bv u.N := by unfold badU at hb; omega
      have hs := hl _ (getDq_mem (l := l) (n := u.Index.toNat) (by omega))
      refine sum_sat hl us _ r h ?_
      show dotF (fun j => a.1 j + bv u.N * cf (l.getD u.Index.toNat ineq0) j) x (nV l) ≤ a.2 + bv u.N * bv (l.getD u.Index.toNat ineq0).Bound
      rw [dotF_add]
      have := Int.mul_le_mul_of_nonneg_left hs.2 hi.2.2
      omega
theorem apply_sat {l : List Ineq} {s : Step} {q : Ineq} {x : Nat → Int} (h : ApplyP l s (q, true)) (hl : ∀ q ∈ l, Sat (nV l) x q) : evenV l ∧ Sat (nV l) x q := by
  unfold ApplyP at h
  split at h
  · rename_i hc
    refine ⟨hc.1, ?_⟩
    cases hs : sumF l s.Uses (fun _ => 0, 0) with
    | none => rw [hs] at h; cases h
    | some a =>
      rw [hs] at h
      obtain ⟨f, b⟩ := a
      dsimp only at h
      split at h
      · rename_i hd
        have h1 := sum_sat hl s.Uses _ _ hs (by rw [dotF_zero]; exact Int.le_refl _)
        refine ⟨h.2.1.1, ?_⟩
        have e1 : dotF (cf q) x (nV l) = dotF (fun j => f j / bv s.Divisor) x (nV l) := dotF_congr fun j hj => (h.2.1.2 j hj).bv
        have e2 : dotF f x (nV l) = bv s.Divisor * dotF (fun j => f j / bv s.Divisor) x (nV l) := by
          rw [← dotF_mul]
          exact dotF_congr fun j hj => (Int.mul_ediv_cancel' (Int.dvd_of_emod_eq_zero (hd j hj))).symm
        rw [e1]
        rw [show bv q.Bound = b / bv s.Divisor from h.2.2.bv]
        rw [e2] at h1
        rw [Int.mul_comm] at h1
        exact Int.le_ediv_of_mul_le hc.2 h1
      · cases h
  · cases h
end Go.D
