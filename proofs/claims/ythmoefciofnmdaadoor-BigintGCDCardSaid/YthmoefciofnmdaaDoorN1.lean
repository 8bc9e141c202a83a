/-
  The laws of chapter 02: Sum, Product, Division, Ring, Remainder. Plain theorems.
-/
import Derived.Test.YthmoefciofnmdaaDoorM12
import Derived.Test.YthmoefciofnmdaaDoorA02
set_option linter.unusedSimpArgs false
set_option linter.unusedVariables false
namespace Go.D
open Go Go.X
/-- an integer of few digits -/
def Ok8 (K : Nat) (x : Big) : Prop := InB W32 x.Digits ∧ x.Digits.length ≤ K
theorem Is.ok8 {x : Big} {v : Int} {K : Nat} (h : Is x v) (hl : x.Digits.length ≤ K) : Ok8 K x := ⟨h.dg.inB, hl⟩
theorem lcp_tm {x : Big} (hl : x.Digits.length ≤ 1000) : Tm (fun N => lcp N x) (fun r => r = x) := by
  unfold lcp rCopy
  refine Tm.bind (Q := (· = x)) (Tm.step (apnd_ok (by simp; omega) (by decide)) (Tm.pure ?_)) (fun _ h => Tm.pure h)
  simp
theorem lsmall_tm {l : List Big} (hl : l.length ≤ 1000) : Tm (fun N => lsmall N l) (fun r => r = true → ∀ x ∈ l, x.Digits.length ≤ 8) := by
  unfold lsmall
  refine Tm.bind (Tm.loop (fun i : Int => ∃ n : Nat, i = n ∧ n ≤ l.length ∧ ∀ j, (hj : j < l.length) → j < n → l[j].Digits.length ≤ 8) (fun i => l.length - i.toNat)
    (Q := fun r : Sum Unit Bool => r = .inr false ∨ (r = .inl () ∧ ∀ x ∈ l, x.Digits.length ≤ 8)) ⟨0, rfl, Nat.zero_le _, fun _ _ h => absurd h (by omega)⟩ ?_) ?_
  · rintro _ ⟨n, rfl, hn, hP⟩
    dsimp only [lsmall_b1]
    refine Tm.ite (fun h => ?_) (fun h => Tm.pure (.inr ⟨rfl, fun x hx => ?_⟩))
    · have hk : n < l.length := by omega
      refine Tm.step (idx_ok hk) (Tm.step (a := decide (((List.length l[n].Digits : Int) : Int) ≤ 8)) rfl ?_)
      refine Tm.ite (fun h1 => Tm.pure (.inl rfl)) (fun h1 => Tm.pure ⟨⟨n + 1, by rw [iw_eq] <;> omega, hk, fun j hj hjn => ?_⟩, ?_⟩)
      · rcases Nat.lt_or_ge j n with h2 | h2
        · exact hP j hj h2
        · obtain rfl : j = n := by omega
          simp at h1; omega
      · show l.length - (iw ((n : Int) + 1)).toNat < l.length - ((n : Int)).toNat
        rw [iw_eq] <;> omega
    · obtain ⟨j, hj, rfl⟩ := List.getElem_of_mem hx
      exact hP j hj (by omega)
  · rintro _ (rfl | ⟨rfl, h⟩)
    · exact Tm.pure (fun h => by cases h)
    · exact Tm.pure (fun _ => h)
/-- 'if !awake() || !small(..) { return awake() }' -/
theorem head_tm {l : List Big} (hl : l.length ≤ 1000) {g : Nat → Option Bool} (h : (∀ x ∈ l, x.Digits.length ≤ 8) → Tm g (fun r => r = true)) :
    Tm (fun N => (((awake N).bind fun r => if (!r) = true then some true else (lsmall N l).bind fun r2 => some (!r2)) : Option Bool).bind fun ss =>
      if ss = true then (awake N).bind fun r => some r else g N) (fun r => r = true) := by
  refine Tm.bind (Q := fun r => r = false → ∀ x ∈ l, x.Digits.length ≤ 8) (Tm.bind awake_tm ?_) ?_
  · rintro _ rfl
    refine Tm.neg (by simp) (Tm.bind (lsmall_tm hl) (fun r hr => Tm.pure (fun h1 => hr (by simpa using h1))))
  · intro r hr
    exact Tm.ite (fun h => Tm.bind awake_tm (fun _ h => Tm.pure h)) (fun h1 => h (hr (by simpa using h1)))
theorem same_tm {x y : Big} {v : Int} {K : Nat} (hx : Is x v) (hy : Is y v) (hl : x.Digits.length ≤ K) (hK : K ≤ 9223372036854775807) {g : Nat → Bool → Option Bool} {R : Bool → Prop} (h : Tm (fun N => g N true) R) :
    Tm (fun N => (rSame N x y).bind (g N)) R := by
  obtain rfl := hx.uniq hy
  refine Tm.bind (rSame_refl (by omega)) ?_
  rintro _ rfl
  exact h
theorem cp_tm {x : Big} {K : Nat} (hl : Ok8 K x) (hK : K ≤ 1000) {β : Type} {g : Nat → Big → Option β} {R : β → Prop} (h : Tm (fun N => g N x) R) : Tm (fun N => (lcp N x).bind (g N)) R := by
  refine Tm.bind (lcp_tm (by have := hl.2; omega)) ?_
  rintro _ rfl
  exact h
theorem lawSum_tm {a b : Big} (ha : InB W32 a.Digits) (hb : InB W32 b.Digits) : Tm (fun N => lawSum N a b) (fun r => r = true) := by
  unfold lawSum
  refine head_tm (by simp) (fun hs => ?_)
  have la : a.Digits.length ≤ 8 := hs a (by simp)
  have lb : b.Digits.length ≤ 8 := hs b (by simp)
  refine cp_tm ⟨ha, la⟩ (by decide) (cp_tm ⟨hb, lb⟩ (by decide) ?_)
  refine Tm.bind (bAdd_tm ha hb (by omega) (by omega)) (fun x hx => Tm.bind (rAdd_tm ha hb (by omega) (by omega)) (fun y hy => same_tm (K := 9) hx.1 hy.1 (by have := hx.2; omega) (by decide) (Tm.pos rfl ?_)))
  refine cp_tm ⟨ha, la⟩ (by decide) (cp_tm ⟨hb, lb⟩ (by decide) ?_)
  refine Tm.bind (bSub_tm ha hb (by omega) (by omega)) (fun x hx => Tm.bind (rSub_tm ha hb (by omega) (by omega)) (fun y hy => same_tm (K := 9) hx.1 hy.1 (by have := hx.2; omega) (by decide) (Tm.pos rfl ?_)))
  refine cp_tm ⟨ha, la⟩ (by decide) (cp_tm ⟨hb, lb⟩ (by decide) ?_)
  refine Tm.bind (bCompare_tm ha hb (by omega) (by omega)) (fun x hx => Tm.bind (rCompare_tm ha hb (by omega) (by omega)) (fun y hy => Tm.pure ?_))
  rw [hx, hy]; simp
theorem lawProduct_tm {a b : Big} (ha : InB W32 a.Digits) (hb : InB W32 b.Digits) : Tm (fun N => lawProduct N a b) (fun r => r = true) := by
  unfold lawProduct
  refine head_tm (by simp) (fun hs => ?_)
  have la : a.Digits.length ≤ 8 := hs a (by simp)
  have lb : b.Digits.length ≤ 8 := hs b (by simp)
  refine cp_tm ⟨ha, la⟩ (by decide) (cp_tm ⟨hb, lb⟩ (by decide) ?_)
  refine Tm.bind (bMul_tm ha hb (by omega) (by omega)) (fun x hx => Tm.bind (rMul_tm ha hb (by omega) (by omega)) (fun y hy => same_tm (K := 16) hx.1 hy.1 (by have := hx.2; omega) (by decide) (Tm.pure rfl)))
theorem lawDivision_tm {a b : Big} (ha : InB W32 a.Digits) (hb : InB W32 b.Digits) : Tm (fun N => lawDivision N a b) (fun r => r = true) := by
  unfold lawDivision
  refine head_tm (by simp) (fun hs => ?_)
  have la : a.Digits.length ≤ 8 := hs a (by simp)
  have lb : b.Digits.length ≤ 8 := hs b (by simp)
  refine cp_tm ⟨ha, la⟩ (by decide) (cp_tm ⟨hb, lb⟩ (by decide) ?_)
  refine Tm.bind (bDivFloor_tm ha hb (by omega) (by omega)) (fun x ⟨hx, l1, l2⟩ => Tm.bind (rDivFloor_tm ha hb (by omega) (by omega)) (fun y hy => ?_))
  refine Tm.pos (by rw [hx.ok, hy.ok]; simp) ?_
  exact same_tm (K := 10) hx.quo hy.quo (by omega) (by decide) (Tm.pos rfl (same_tm (K := 9) hx.rem hy.rem (by omega) (by decide) (Tm.pure rfl)))
theorem lawRing_tm {a b c : Big} (ha : InB W32 a.Digits) (hb : InB W32 b.Digits) (hc : InB W32 c.Digits) : Tm (fun N => lawRing N a b c) (fun r => r = true) := by
  unfold lawRing
  refine head_tm (by simp) (fun hs => ?_)
  have la : a.Digits.length ≤ 8 := hs a (by simp)
  have lb : b.Digits.length ≤ 8 := hs b (by simp)
  have lc : c.Digits.length ≤ 8 := hs c (by simp)
  refine cp_tm ⟨ha, la⟩ (by decide) (cp_tm ⟨hb, lb⟩ (by decide) ?_)
  refine Tm.bind (bAdd_tm ha hb (by omega) (by omega)) (fun x1 ⟨h1, k1⟩ => cp_tm ⟨hc, lc⟩ (by decide) ?_)
  refine Tm.bind (bMul_tm h1.dg.inB hc (by omega) (by omega)) (fun x2 ⟨h2, k2⟩ => cp_tm ⟨ha, la⟩ (by decide) (cp_tm ⟨hc, lc⟩ (by decide) ?_))
  refine Tm.bind (bMul_tm ha hc (by omega) (by omega)) (fun x3 ⟨h3, k3⟩ => cp_tm ⟨hb, lb⟩ (by decide) (cp_tm ⟨hc, lc⟩ (by decide) ?_))
  refine Tm.bind (bMul_tm hb hc (by omega) (by omega)) (fun x4 ⟨h4, k4⟩ => ?_)
  refine Tm.bind (bAdd_tm h3.dg.inB h4.dg.inB (by omega) (by omega)) (fun x5 ⟨h5, k5⟩ => cp_tm ⟨ha, la⟩ (by decide) (cp_tm ⟨hb, lb⟩ (by decide) ?_))
  refine Tm.bind (bAdd_tm ha hb (by omega) (by omega)) (fun x6 ⟨h6, k6⟩ => cp_tm ⟨hc, lc⟩ (by decide) ?_)
  refine Tm.bind (bAdd_tm h6.dg.inB hc (by omega) (by omega)) (fun x7 ⟨h7, k7⟩ => cp_tm ⟨ha, la⟩ (by decide) (cp_tm ⟨hb, lb⟩ (by decide) (cp_tm ⟨hc, lc⟩ (by decide) ?_)))
  refine Tm.bind (bAdd_tm hb hc (by omega) (by omega)) (fun x8 ⟨h8, k8⟩ => ?_)
  refine Tm.bind (bAdd_tm ha h8.dg.inB (by omega) (by omega)) (fun x9 ⟨h9, k9⟩ => cp_tm ⟨ha, la⟩ (by decide) (cp_tm ⟨hb, lb⟩ (by decide) ?_))
  refine Tm.bind (bMul_tm ha hb (by omega) (by omega)) (fun y1 ⟨g1, m1⟩ => cp_tm ⟨hc, lc⟩ (by decide) ?_)
  refine Tm.bind (bMul_tm g1.dg.inB hc (by omega) (by omega)) (fun y2 ⟨g2, m2⟩ => cp_tm ⟨ha, la⟩ (by decide) (cp_tm ⟨hb, lb⟩ (by decide) (cp_tm ⟨hc, lc⟩ (by decide) ?_)))
  refine Tm.bind (bMul_tm hb hc (by omega) (by omega)) (fun y3 ⟨g3, m3⟩ => ?_)
  refine Tm.bind (bMul_tm ha g3.dg.inB (by omega) (by omega)) (fun y4 ⟨g4, m4⟩ => ?_)
  rw [h1.bv] at h2; rw [h3.bv, h4.bv] at h5; rw [h6.bv] at h7; rw [h8.bv] at h9; rw [g1.bv] at g2; rw [g3.bv] at g4
  refine same_tm (K := 40) h2 (by rw [Int.add_mul]; exact h5) (by omega) (by decide) (Tm.pos rfl ?_)
  refine same_tm (K := 40) h7 (by rw [Int.add_assoc]; exact h9) (by omega) (by decide) (Tm.pos rfl ?_)
  refine same_tm (K := 40) g2 (by rw [Int.mul_assoc]; exact g4) (by omega) (by decide) (Tm.pos rfl ?_)
  refine cp_tm ⟨ha, la⟩ (by decide) (cp_tm ⟨hb, lb⟩ (by decide) ?_)
  refine Tm.bind (bMul_tm ha hb (by omega) (by omega)) (fun z1 ⟨f1, n1⟩ => cp_tm ⟨hb, lb⟩ (by decide) (cp_tm ⟨ha, la⟩ (by decide) ?_))
  refine Tm.bind (bMul_tm hb ha (by omega) (by omega)) (fun z2 ⟨f2, n2⟩ => ?_)
  exact same_tm (K := 40) f1 (by rw [Int.mul_comm]; exact f2) (by omega) (by decide) (Tm.pure rfl)
end Go.D
