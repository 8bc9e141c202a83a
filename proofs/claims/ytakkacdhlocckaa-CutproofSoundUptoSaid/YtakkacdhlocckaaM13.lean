/-
  Deriving an inequality, by both programs. Plain theorems.
-/
import Derived.Test.YtakkacdhlocckaaM12
import Derived.Test.YtakkacdhlocckaaM4
import Derived.Test.YtakkacdhlocckaaM5
namespace Go.D
open Go Go.X
abbrev ineq0 : Ineq := ⟨[], ⟨false, []⟩⟩
theorem idx_gb {xs : List Big} {i : Int} {n : Nat} (e : i = (n : Int)) (h : n < xs.length) : idx xs i = some (xs.getD n big0) := by
  rw [getDb h]; exact idx_i e h
theorem idx_gq {xs : List Ineq} {i : Int} {n : Nat} (e : i = (n : Int)) (h : n < xs.length) : idx xs i = some (xs.getD n ineq0) := by
  rw [List.getD_eq_getElem?_getD, List.getElem?_eq_getElem h]; exact idx_i e h
theorem getDb_set {l : List Big} {n m : Nat} {y : Big} (h : n < l.length) : (l.set n y).getD m big0 = if n = m then y else l.getD m big0 := by
  rw [List.getD_eq_getElem?_getD, List.getD_eq_getElem?_getD, List.getElem?_set]
  by_cases e : n = m
  · subst e; simp [h]
  · simp [e]
theorem getDq_mem {l : List Ineq} {n : Nat} (h : n < l.length) : l.getD n ineq0 ∈ l := by
  rw [List.getD_eq_getElem?_getD, List.getElem?_eq_getElem h]; exact List.getElem_mem h
theorem getDb_mem {l : List Big} {n : Nat} (h : n < l.length) : l.getD n big0 ∈ l := by
  rw [List.getD_eq_getElem?_getD, List.getElem?_eq_getElem h]; exact List.getElem_mem h
def IsF (n : Nat) (c : List Big) (f : Nat → Int) : Prop := c.length = n ∧ ∀ j, j < n → Is (c.getD j big0) (f j)
theorem IsF.uniq {n : Nat} {c c' : List Big} {f : Nat → Int} (h : IsF n c f) (h' : IsF n c' f) : c = c' := by
  apply List.ext_getElem (h.1.trans h'.1.symm)
  intro i h1 h2
  have g1 := h.2 i (by rw [← h.1]; exact h1)
  have g2 := h'.2 i (by rw [← h.1]; exact h1)
  rw [getDb h1] at g1
  rw [getDb h2] at g2
  exact g1.uniq g2
theorem pw_loop {ρ : Type} {body : Nat → List Big × Int → Option (Stp (List Big × Int) ρ)} {fin : List Big → ρ} {bad : ρ} {n K K' : Nat} {f g : Nat → Int} {F : Nat → Prop} {c0 : List Big} (hn : n ≤ 1073741824) (h0 : IsF n c0 f) (hk0 : ∀ j, j < n → (c0.getD j big0).Digits.length ≤ K)
    (step : ∀ k, k < n → ∀ c : List Big, c.length = n → Is (c.getD k big0) (f k) → (c.getD k big0).Digits.length ≤ K →
      Tm (fun N => body N (c, (k : Int))) (fun s => (∃ y, s = .next (c.set k y, iw ((k : Int) + 1)) ∧ Is y (g k) ∧ y.Digits.length ≤ K' ∧ ¬ F k) ∨ (s = .done bad ∧ F k)))
    (stop : ∀ c : List Big, c.length = n → Tm (fun N => body N (c, (n : Int))) (fun s => s = .done (fin c))) :
    Tm (fun N => loopM (body N) N (c0, 0)) (fun r => (∃ c, r = fin c ∧ IsF n c g ∧ (∀ j, j < n → (c.getD j big0).Digits.length ≤ K') ∧ ∀ k, k < n → ¬ F k) ∨ (r = bad ∧ ∃ k, k < n ∧ F k)) := by
  refine Tm.loop (fun t : List Big × Int => ∃ k : Nat, t.2 = k ∧ k ≤ n ∧ t.1.length = n ∧ (∀ j, j < k → Is (t.1.getD j big0) (g j) ∧ (t.1.getD j big0).Digits.length ≤ K' ∧ ¬ F j) ∧ ∀ j, k ≤ j → j < n → Is (t.1.getD j big0) (f j) ∧ (t.1.getD j big0).Digits.length ≤ K) (fun t => n - t.2.toNat)
    ⟨0, rfl, Nat.zero_le _, h0.1, fun j hj => absurd hj (by omega), fun j _ hj => ⟨h0.2 j hj, hk0 j hj⟩⟩ ?_
  rintro ⟨c, kk⟩ ⟨k, rfl, hk, hc, h1, h2⟩
  dsimp only at *
  rcases Nat.lt_or_ge k n with hkn | hkn
  · refine (step k hkn c hc (h2 k (Nat.le_refl _) hkn).1 (h2 k (Nat.le_refl _) hkn).2).mono ?_
    rintro s (⟨y, rfl, hy, hyl, hF⟩ | ⟨rfl, hF⟩)
    · refine ⟨⟨k + 1, by show iw ((k : Int) + 1) = _; rw [iw_eq] <;> omega, by omega, by simp; omega, fun j hj => ?_, fun j hj hjn => ?_⟩, ?_⟩
      · show Is ((c.set k y).getD j big0) (g j) ∧ ((c.set k y).getD j big0).Digits.length ≤ K' ∧ ¬ F j
        rw [getDb_set (by omega)]
        by_cases e : k = j
        · subst e; rw [if_pos rfl]; exact ⟨hy, hyl, hF⟩
        · rw [if_neg e]; exact h1 j (by omega)
      · show Is ((c.set k y).getD j big0) (f j) ∧ ((c.set k y).getD j big0).Digits.length ≤ K
        rw [getDb_set (by omega), if_neg (by omega)]; exact h2 j (by omega) hjn
      · show n - (iw ((k : Int) + 1)).toNat < n - ((k : Int)).toNat
        rw [iw_eq] <;> omega
    · exact .inr ⟨rfl, k, hkn, hF⟩
  · obtain rfl : k = n := by omega
    refine (stop c hc).mono ?_
    rintro s rfl
    exact .inl ⟨c, rfl, ⟨hc, fun j hj => (h1 j hj).1⟩, fun j hj => (h1 j hj).2.1, fun j hj => (h1 j hj).2.2⟩
def nV (l : List Ineq) : Nat := (l.getD 0 ineq0).Coefs.length
def evenV (l : List Ineq) : Prop := ∀ q ∈ l, q.Coefs.length = nV l
instance (l : List Ineq) : Decidable (evenV l) := inferInstanceAs (Decidable (∀ q ∈ l, q.Coefs.length = nV l))
def badU (l : List Ineq) (u : Use) : Prop := u.Index < 0 ∨ (l.length : Int) ≤ u.Index ∨ bv u.N < 0
instance (l : List Ineq) (u : Use) : Decidable (badU l u) := inferInstanceAs (Decidable (_ ∨ _ ∨ _))
def addF (l : List Ineq) (u : Use) (a : (Nat → Int) × Int) : (Nat → Int) × Int :=
  (fun j => a.1 j + bv u.N * bv ((l.getD u.Index.toNat ineq0).Coefs.getD j big0), a.2 + bv u.N * bv (l.getD u.Index.toNat ineq0).Bound)
def sumF (l : List Ineq) : List Use → (Nat → Int) × Int → Option ((Nat → Int) × Int)
  | [], a => some a
  | u :: us, a => if badU l u then none else sumF l us (addF l u a)
def ApplyP (l : List Ineq) (s : Step) (r : Ineq × Bool) : Prop :=
  if evenV l ∧ 0 < bv s.Divisor then
    match sumF l s.Uses (fun _ => 0, 0) with
    | none => r = (ineq0, false)
    | some (f, b) => if ∀ j, j < nV l → f j % bv s.Divisor = 0 then r.2 = true ∧ IsF (nV l) r.1.Coefs (fun j => f j / bv s.Divisor) ∧ Is r.1.Bound (b / bv s.Divisor) else r = (ineq0, false)
  else r = (ineq0, false)
theorem ApplyP.uniq {l : List Ineq} {s : Step} {r r' : Ineq × Bool} (h : ApplyP l s r) (h' : ApplyP l s r') : r = r' := by
  unfold ApplyP at h h'
  split at h
  · rename_i hc
    rw [if_pos hc] at h'
    cases hs : sumF l s.Uses (fun _ => 0, 0) with
    | none => rw [hs] at h h'; exact h.trans h'.symm
    | some a =>
      rw [hs] at h h'
      obtain ⟨f, b⟩ := a
      dsimp only at h h'
      split at h
      · rename_i hd
        rw [if_pos hd] at h'
        obtain ⟨⟨c, d⟩, t⟩ := r
        obtain ⟨⟨c', d'⟩, t'⟩ := r'
        have h1 : c = c' := h.2.1.uniq h'.2.1
        have h2 : d = d' := h.2.2.uniq h'.2.2
        have h3 : t = t' := h.1.trans h'.1.symm
        subst h1; subst h2; subst h3; rfl
      · rename_i hd
        rw [if_neg hd] at h'
        exact h.trans h'.symm
  · rename_i hc
    rw [if_neg hc] at h'
    exact h.trans h'.symm
theorem sgn_pos {a : Int} : 0 < sgn a 0 ↔ 0 < a := by unfold sgn; (repeat' split) <;> omega
structure OkS (s : Step) : Prop where
  len : s.Uses.length ≤ 12
  use : ∀ u ∈ s.Uses, OkB 4 u.N
  div : OkB 4 s.Divisor
theorem containsIneq_tm {f : Nat → Ineq → Option Bool} {p : Ineq → Bool} {s : List Ineq} (hl : s.length ≤ 9223372036854775807) (hf : ∀ q ∈ s, Tm (fun N => f N q) (fun r => r = p q)) : Tm (fun N => containsIneq N s (f N)) (fun r => r = s.any p) := by
  unfold containsIneq
  refine Tm.bind (Q := fun r : Int => (0 ≤ r ↔ s.any p = true)) ?_ (fun r hr => Tm.pure ?_)
  · unfold indexIneq
    refine Tm.bind (Tm.each (body := fun N => indexIneq_b1 N (f N) s) s (fun q => p q = false) (Q := fun r => (r = .inl () ∧ s.any p = false) ∨ ∃ z : Int, r = .inr z ∧ 0 ≤ z ∧ s.any p = true) hl ?_ ?_) ?_
    · intro n hn hP
      dsimp only [indexIneq_b1]
      refine Tm.pos (by omega) (Tm.step (idx_ok hn) (Tm.bind (hf _ (List.getElem_mem hn)) ?_))
      rintro _ rfl
      refine Tm.ite (fun h => Tm.pure (.inr ⟨_, rfl, .inr ⟨_, rfl, by omega, List.any_eq_true.2 ⟨_, List.getElem_mem hn, h⟩⟩⟩)) (fun h => Tm.pure (.inl ⟨rfl, by simpa using h⟩))
    · intro hP
      dsimp only [indexIneq_b1]
      refine Tm.neg (by omega) (Tm.pure ⟨_, rfl, .inl ⟨rfl, ?_⟩⟩)
      rw [Bool.eq_false_iff]
      intro h
      obtain ⟨q, hq, h1⟩ := List.any_eq_true.1 h
      rw [hP q hq] at h1; cases h1
    · rintro _ (⟨rfl, h⟩ | ⟨z, rfl, hz, h⟩)
      · exact Tm.pure (by rw [h]; simp)
      · exact Tm.pure (by rw [h]; simpa using hz)
  · by_cases h : 0 ≤ r
    · rw [hr.1 h]; simpa using h
    · have : s.any p = false := by rw [Bool.eq_false_iff]; exact fun e => h (hr.2 e)
      rw [this]; simpa using h
theorem cwidth_tm {l : List Ineq} (hl : l.length ≤ 9223372036854775807) : Tm (fun N => cwidth N l) (fun r => r = ((nV l : Int), decide (evenV l))) := by
  unfold cwidth
  refine Tm.ite (fun h => Tm.pure ?_) (fun h => ?_)
  · have : l = [] := List.length_eq_zero_iff.1 (by omega)
    subst this
    simp [nV, evenV]
  · refine Tm.step (idx_gq (n := 0) rfl (by omega)) ?_
    refine Tm.bind (containsIneq_tm (p := fun q => decide (((q.Coefs.length : Int) : Int) ≠ ((l.getD 0 ineq0).Coefs.length : Int))) hl (fun q _ => by unfold width1; exact Tm.pure rfl)) ?_
    rintro _ rfl
    refine Tm.pure ?_
    have : (!l.any fun q => decide (((q.Coefs.length : Int) : Int) ≠ ((l.getD 0 ineq0).Coefs.length : Int))) = decide (evenV l) := by
      by_cases he : evenV l
      · have : (l.any fun q => decide (((q.Coefs.length : Int) : Int) ≠ ((l.getD 0 ineq0).Coefs.length : Int))) = false := by
          rw [Bool.eq_false_iff]
          intro h
          obtain ⟨q, hq, h1⟩ := List.any_eq_true.1 h
          have := he q hq
          unfold nV at this
          simp [this] at h1
        rw [this]; simp [he]
      · have : (l.any fun q => decide (((q.Coefs.length : Int) : Int) ≠ ((l.getD 0 ineq0).Coefs.length : Int))) = true := by
          have : ∃ q ∈ l, q.Coefs.length ≠ nV l := by
            refine Classical.byContradiction fun h => he fun q hq => Classical.byContradiction fun h' => h ⟨q, hq, h'⟩
          obtain ⟨q, hq, h1⟩ := this
          refine List.any_eq_true.2 ⟨q, hq, ?_⟩
          unfold nV at h1
          exact decide_eq_true (by omega)
        rw [this]; simp [he]
    rw [this]; rfl
theorem rEven_tm {l : List Ineq} (hl : l.length ≤ 9223372036854775807) : Tm (fun N => rEven N l) (fun r => r = decide (evenV l)) := by
  unfold rEven
  refine Tm.bind (Tm.each (body := fun N => rEven_b1 N l) l (fun q => q.Coefs.length = nV l) (Q := fun r => (r = .inl () ∧ evenV l) ∨ (r = .inr false ∧ ¬ evenV l)) hl ?_ ?_) ?_
  · intro n hn hP
    dsimp only [rEven_b1]
    refine Tm.pos (by omega) (Tm.step (idx_ok hn) (Tm.step (idx_gq (n := 0) rfl (by omega)) ?_))
    refine Tm.ite (fun h => Tm.pure (.inr ⟨_, rfl, .inr ⟨rfl, fun he => ?_⟩⟩)) (fun h => Tm.pure (.inl ⟨rfl, ?_⟩))
    · have := he _ (List.getElem_mem hn)
      unfold nV at this; omega
    · unfold nV; omega
  · intro hP
    dsimp only [rEven_b1]
    exact Tm.neg (by omega) (Tm.pure ⟨_, rfl, .inl ⟨rfl, hP⟩⟩)
  · rintro _ (⟨rfl, h⟩ | ⟨rfl, h⟩)
    · exact Tm.pure (by simp [h])
    · exact Tm.pure (by simp [h])
theorem evenV.get {l : List Ineq} (h : evenV l) {n : Nat} (hn : n < l.length) : (l.getD n ineq0).Coefs.length = nV l := h _ (getDq_mem hn)
theorem IsF.rep {n : Nat} : IsF n (List.replicate n big0) (fun _ => 0) := ⟨by simp, fun j hj => by rw [getDb (by simpa using hj)]; simpa using is0⟩
theorem drop_cons {l : List Use} {k : Nat} (h : k < l.length) : l.drop k = l[k] :: l.drop (k + 1) := List.drop_eq_getElem_cons h
theorem cApply_tm {K : Nat} {l : List Ineq} {s : Step} (hK : K ≤ 536870912) (hl : l.length ≤ 1073741824) (hq : ∀ q ∈ l, OkI K q) (hs : OkS s) : Tm (fun N => cApply N l s) (fun r => ApplyP l s r ∧ OkI (K + 20) r.1) := by
  have ok0 : OkI (K + 20) ineq0 := ⟨Nat.zero_le _, ⟨fun b hb => (by cases hb), OkB.nil⟩⟩
  unfold cApply
  refine Tm.bind (cwidth_tm (by omega)) ?_
  rintro _ rfl
  refine Tm.bind (Q := (· = decide (¬ (evenV l ∧ 0 < bv s.Divisor)))) (Tm.ite (fun h => Tm.pure ?_) (fun h => ?_)) ?_
  · have : ¬ evenV l := by simpa using h
    simp [this]
  · have he : evenV l := by simpa using h
    refine Tm.bind (bSign_tm hs.div.1 (by have := hs.div.2; omega)) ?_
    rintro _ rfl
    refine Tm.pure ?_
    have := sgn_pos (a := bv s.Divisor)
    by_cases h1 : 0 < bv s.Divisor
    · have h2 := this.2 h1
      simp [he, h1]; omega
    · have h2 : ¬ 0 < sgn (bv s.Divisor) 0 := fun e => h1 (this.1 e)
      simp [h1]; omega
  rintro _ rfl
  refine Tm.ite (fun h => Tm.pure ⟨?_, ok0⟩) (fun h => ?_)
  · unfold ApplyP; rw [if_neg (of_decide_eq_true h)]
  · have hc : evenV l ∧ 0 < bv s.Divisor := by simpa using h
    obtain ⟨he, hd⟩ := hc
    have hn : nV l ≤ K := by
      rcases Nat.eq_zero_or_pos l.length with h0 | h0
      · have : l = [] := List.length_eq_zero_iff.1 h0
        subst this; simp [nV]
      · exact (hq _ (getDq_mem h0)).1
    refine Tm.step (mk1_ok rfl (by omega) (by decide)) ?_
    refine Tm.bind (Q := fun r : Sum (List Big × Bool × List Int) (Ineq × Bool) => (∃ f c neg ds, r = .inl (c, neg, ds) ∧ sumF l s.Uses (fun _ => 0, 0) = some (f, bv ⟨neg, ds⟩) ∧ IsF (nV l) c f ∧ (∀ j, j < nV l → (c.getD j big0).Digits.length ≤ K + 16) ∧ OkB (K + 16) ⟨neg, ds⟩) ∨ (r = .inr (ineq0, false) ∧ sumF l s.Uses (fun _ => 0, 0) = none))
      (Tm.loop (fun t : List Big × Bool × List Int × Int => ∃ (k : Nat) (f : Nat → Int), t.2.2.2 = k ∧ k ≤ s.Uses.length ∧ sumF l s.Uses (fun _ => 0, 0) = sumF l (s.Uses.drop k) (f, bv ⟨t.2.1, t.2.2.1⟩) ∧ IsF (nV l) t.1 f ∧ (∀ j, j < nV l → (t.1.getD j big0).Digits.length ≤ K + 4 + k) ∧ OkB (K + 4 + k) ⟨t.2.1, t.2.2.1⟩) (fun t => s.Uses.length - t.2.2.2.toNat)
        ⟨0, fun _ => 0, rfl, Nat.zero_le _, by rw [List.drop_zero, bv_nil], IsF.rep, fun j hj => by rw [getDb (by simpa using hj)]; simp, .nil⟩ ?_) ?_
    · rintro ⟨c, neg, ds, kk⟩ ⟨k, f, rfl, hk, hsum, hcf, hcl, hb⟩
      have hlen := hs.len
      dsimp only [cApply_b1] at *
      refine Tm.ite (fun h1 => ?_) (fun h1 => Tm.pure ?_)
      · have hku : k < s.Uses.length := by omega
        refine Tm.step (idx_ok hku) ?_
        have hu := hs.use _ (List.getElem_mem hku)
        rw [drop_cons hku] at hsum
        generalize s.Uses[k] = u at *
        simp only [sumF] at hsum
        refine Tm.bind (Q := (· = decide (badU l u))) (Tm.ite (fun h2 => Tm.pure ?_) (fun h2 => Tm.ite (fun h3 => Tm.pure ?_) (fun h3 => ?_))) ?_
        · have : badU l u := .inl h2
          simp [this]
        · have : badU l u := .inr (.inl (by omega))
          simp [this]
        · refine Tm.bind (bSign_tm hu.1 (by have := hu.2; omega)) ?_
          rintro _ rfl
          refine Tm.pure ?_
          have := sgn_neg (a := bv u.N)
          unfold badU
          by_cases h4 : bv u.N < 0
          · simp [h4, this.2 h4]
          · have : ¬ sgn (bv u.N) 0 < 0 := fun e => h4 (this.1 e)
            simp [h4, this]; omega
        rintro _ rfl
        refine Tm.ite (fun h2 => Tm.pure ?_) (fun h2 => ?_)
        · rw [if_pos (of_decide_eq_true h2)] at hsum
          exact .inr ⟨rfl, hsum⟩
        · have hbu : ¬ badU l u := by simpa using h2
          rw [if_neg hbu] at hsum
          have hi : 0 ≤ u.Index ∧ u.Index < l.length ∧ 0 ≤ bv u.N := by unfold badU at hbu; omega
          have hii : u.Index = (u.Index.toNat : Int) := by omega
          have hil : u.Index.toNat < l.length := by omega
          refine Tm.step (idx_gq hii hil) ?_
          have hqq := hq _ (getDq_mem hil)
          have hqn := he.get hil
          generalize hQ : l.getD u.Index.toNat ineq0 = q at *
          have hu4 := hu.2
          have hqb := hqq.2.2.2
          have inner := pw_loop (ρ := List Big) (body := fun N => cApply_b2 N u q) (fin := fun c => c) (bad := []) (n := nV l) (K := K + 4 + k) (K' := K + 4 + (k + 1)) (f := f) (g := fun j => f j + bv u.N * bv (q.Coefs.getD j big0)) (F := fun _ => False) (c0 := c) (by omega) hcf hcl
            (fun j hj c' hc' h3 h4 => by
              dsimp only [cApply_b2]
              have hqj := hqq.2.1 _ (getDb_mem (l := q.Coefs) (n := j) (by omega))
              have := hqj.2
              refine Tm.pos (by omega) (Tm.step (idx_gb rfl (by omega)) (Tm.step (idx_gb rfl (by omega)) (Tm.bind (bMul_tm hu.1 hqj.1 (by omega) (by omega)) ?_)))
              rintro m ⟨hm, hml⟩
              refine Tm.bind (bAdd_tm h3.dg.inB hm.dg.inB (by omega) (by omega)) ?_
              rintro a ⟨ha, hal⟩
              refine Tm.step (idx_gb rfl (by omega)) (Tm.step (upd1_i rfl (by omega)) (Tm.pure (.inl ⟨a, rfl, ?_, by omega, fun e => e⟩)))
              rw [h3.bv, hm.bv] at ha; exact ha)
            (fun c' hc' => by dsimp only [cApply_b2]; exact Tm.neg (by omega) (Tm.pure rfl))
          refine Tm.bind inner ?_
          rintro c2 (⟨_, rfl, hc2, hc2l, -⟩ | ⟨-, j, hj, hF⟩)
          · refine Tm.bind (bMul_tm hu.1 hqq.2.2.1 (by omega) (by omega)) ?_
            rintro m ⟨hm, hml⟩
            have hb2 : ds.length ≤ K + 4 + k := hb.2
            refine Tm.bind (bAdd_tm hb.1 hm.dg.inB (show ds.length ≤ _ by omega) (by omega)) ?_
            rintro a ⟨ha, hal⟩
            dsimp only at hal
            refine Tm.pure ⟨⟨k + 1, _, by show iw ((k : Int) + 1) = _; rw [iw_eq] <;> omega, by omega, ?_, hc2, hc2l, ha.ok ?_⟩, ?_⟩
            · show sumF l s.Uses (fun _ => 0, 0) = sumF l (s.Uses.drop (k + 1)) (_, bv a)
              rw [ha.bv, hm.bv, hsum]
              unfold addF
              rw [hQ]
            · omega
            · show s.Uses.length - (iw ((k : Int) + 1)).toNat < s.Uses.length - ((k : Int)).toNat
              rw [iw_eq] <;> omega
          · exact hF.elim
      · have hkL : k = s.Uses.length := by omega
        subst hkL
        rw [List.drop_length] at hsum
        exact .inl ⟨f, c, neg, ds, rfl, hsum, hcf, fun j hj => by have := hcl j hj; omega, hb.mono (by omega)⟩
    · rintro _ (⟨f, c, neg, ds, rfl, hsum, hcf, hcl, hb⟩ | ⟨rfl, hsum⟩)
      · dsimp only
        have hb2 : ds.length ≤ K + 16 := hb.2
        have hdv := hs.div.2
        have inner := pw_loop (ρ := Sum (List Big) (Ineq × Bool)) (body := fun N => cApply_b3 N s c) (fin := fun c => .inl c) (bad := .inr (ineq0, false)) (n := nV l) (K := K + 16) (K' := K + 20) (f := f) (g := fun j => f j / bv s.Divisor) (F := fun j => ¬ f j % bv s.Divisor = 0) (c0 := c) (by omega) hcf hcl
          (fun j hj c' hc' h3 h4 => by
            dsimp only [cApply_b3]
            refine Tm.pos (by have := hcf.1; omega) (Tm.step (idx_gb rfl (by omega)) (Tm.bind (bDivFloor_tm h3.dg.inB hs.div.1 (by omega) (by omega)) ?_))
            rintro ⟨qq, rr, oo⟩ ⟨hD, hql, hrl⟩
            have hquo := hD.quo
            have hrem := hD.rem
            dsimp only at hquo hrem hql hrl
            rw [h3.bv, Int.fdiv_eq_ediv_of_nonneg _ (by omega)] at hquo
            rw [h3.bv, if_neg (by omega), Int.fmod_eq_emod_of_nonneg _ (by omega)] at hrem
            refine Tm.bind (bSign_tm hrem.dg.inB (show rr.Digits.length ≤ _ by omega)) ?_
            rintro _ rfl
            rw [hrem.bv]
            refine Tm.ite (fun h5 => Tm.pure (.inr ⟨rfl, fun e => h5 (sgn_zero.2 e)⟩)) (fun h5 => ?_)
            refine Tm.step (idx_gb rfl (by omega)) (Tm.step (upd1_i rfl (by omega)) (Tm.pure (.inl ⟨qq, rfl, hquo, by omega, fun e => e (sgn_zero.1 (by omega))⟩))))
          (fun c' hc' => by dsimp only [cApply_b3]; exact Tm.neg (by have := hcf.1; omega) (Tm.pure rfl))
        refine Tm.bind inner ?_
        rintro _ (⟨c2, rfl, hc2, hc2l, hall⟩ | ⟨rfl, j, hj, hF⟩)
        · refine Tm.bind (bDivFloor_tm hb.1 hs.div.1 (show ds.length ≤ _ by omega) (by omega)) ?_
          rintro ⟨qq, rr, oo⟩ ⟨hD, hql, hrl⟩
          have hquo := hD.quo
          dsimp only at hquo hql hrl
          rw [Int.fdiv_eq_ediv_of_nonneg _ (by omega)] at hquo
          refine Tm.pure ⟨?_, ⟨by dsimp only; rw [hc2.1]; omega, fun b hb' => ?_, hquo.ok (by omega)⟩⟩
          · unfold ApplyP
            rw [if_pos ⟨he, hd⟩, hsum]
            dsimp only
            rw [if_pos (fun j hj => Classical.not_not.1 (hall j hj))]
            exact ⟨rfl, hc2, hquo⟩
          · obtain ⟨j, hj, rfl⟩ := List.mem_iff_getElem.1 hb'
            have hj' : j < nV l := by have := hc2.1; dsimp only at hj; omega
            have h1 := hc2.2 j hj'
            have h2 := hc2l j hj'
            rw [getDb hj] at h1 h2
            exact h1.ok h2
        · refine Tm.pure ⟨?_, ok0⟩
          unfold ApplyP
          rw [if_pos ⟨he, hd⟩, hsum]
          dsimp only
          rw [if_neg (fun h => hF (h j hj))]
      · refine Tm.pure ⟨?_, ok0⟩
        unfold ApplyP
        rw [if_pos ⟨he, hd⟩, hsum]
end Go.D
