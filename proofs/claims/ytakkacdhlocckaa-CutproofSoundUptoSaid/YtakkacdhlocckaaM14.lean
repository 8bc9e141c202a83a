/-
  Deriving an inequality by the reference, and the law of Apply. Plain theorems.
-/
import Derived.Test.YtakkacdhlocckaaM13
import Derived.Test.YtakkacdhlocckaaM6a
namespace Go.D
open Go Go.X
theorem OkB.abs {K : Nat} {x : Big} (h : OkB K x) : ((bv x).natAbs : Int) < W32 ^ K := by
  have h0 := val_nonneg (B := W32) (by decide) h.1
  have h1 := val_lt (B := W32) (by decide) h.1
  have h2 := pow_mono (B := W32) (by decide) h.2
  unfold bv
  split <;> omega
theorem rApply_tm {K : Nat} {l : List Ineq} {s : Step} (hK : K ≤ 536870912) (hl : l.length ≤ 1073741824) (hq : ∀ q ∈ l, OkI K q) (hs : OkS s) : Tm (fun N => rApply N l s) (fun r => ApplyP l s r) := by
  unfold rApply
  refine Tm.bind (Q := (· = decide (¬ (evenV l ∧ 0 < bv s.Divisor)))) (Tm.bind (rEven_tm (by omega)) ?_) ?_
  · rintro _ rfl
    refine Tm.ite (fun h => Tm.pure ?_) (fun h => ?_)
    · have : ¬ evenV l := by simpa using h
      simp [this]
    · have he : evenV l := by simpa using h
      refine Tm.bind (rSign_tm hs.div.1 (by have := hs.div.2; omega)) ?_
      rintro _ rfl
      refine Tm.pure ?_
      have := sgn_pos (a := bv s.Divisor)
      by_cases h1 : 0 < bv s.Divisor
      · have h2 := this.2 h1
        simp [he, h1]; omega
      · have h2 : ¬ 0 < sgn (bv s.Divisor) 0 := fun e => h1 (this.1 e)
        simp [h1]; omega
  rintro _ rfl
  refine Tm.ite (fun h => Tm.pure ?_) (fun h => ?_)
  · unfold ApplyP; rw [if_neg (of_decide_eq_true h)]
  · have hc : evenV l ∧ 0 < bv s.Divisor := by simpa using h
    obtain ⟨he, hd⟩ := hc
    have hn : nV l ≤ K := by
      rcases Nat.eq_zero_or_pos l.length with h0 | h0
      · have : l = [] := List.length_eq_zero_iff.1 h0
        subst this; simp [nV]
      · exact (hq _ (getDq_mem h0)).1
    refine Tm.bind (Q := (· = (nV l : Int))) (Tm.ite (fun h1 => Tm.step (idx_gq (n := 0) rfl (by omega)) (Tm.pure rfl)) (fun h1 => Tm.pure ?_)) ?_
    · have : l = [] := List.length_eq_zero_iff.1 (by omega)
      subst this; simp [nV]
    rintro _ rfl
    refine Tm.bind (Q := (· = ⟨List.replicate (nV l) big0, big0⟩)) (by unfold rzero; exact Tm.step (mk1_ok rfl (by omega) (by decide)) (Tm.pure rfl)) ?_
    rintro _ rfl
    dsimp only
    refine Tm.bind (Q := fun r : Sum (List Big × Bool × List Int) (Ineq × Bool) => (∃ f c neg ds, r = .inl (c, neg, ds) ∧ sumF l s.Uses (fun _ => 0, 0) = some (f, bv ⟨neg, ds⟩) ∧ IsF (nV l) c f ∧ (∀ j, j < nV l → (c.getD j big0).Digits.length ≤ K + 16) ∧ OkB (K + 16) ⟨neg, ds⟩) ∨ (r = .inr (ineq0, false) ∧ sumF l s.Uses (fun _ => 0, 0) = none))
      (Tm.loop (fun t : List Big × Bool × List Int × Int => ∃ (k : Nat) (f : Nat → Int), t.2.2.2 = k ∧ k ≤ s.Uses.length ∧ sumF l s.Uses (fun _ => 0, 0) = sumF l (s.Uses.drop k) (f, bv ⟨t.2.1, t.2.2.1⟩) ∧ IsF (nV l) t.1 f ∧ (∀ j, j < nV l → (t.1.getD j big0).Digits.length ≤ K + 4 + k) ∧ OkB (K + 4 + k) ⟨t.2.1, t.2.2.1⟩) (fun t => s.Uses.length - t.2.2.2.toNat)
        ⟨0, fun _ => 0, rfl, Nat.zero_le _, by rw [List.drop_zero, bv_nil], IsF.rep, fun j hj => by rw [getDb (by simpa using hj)]; simp, .nil⟩ ?_) ?_
    · rintro ⟨c, neg, ds, kk⟩ ⟨k, f, rfl, hk, hsum, hcf, hcl, hb⟩
      have hlen := hs.len
      dsimp only [rApply_b1] at *
      refine Tm.ite (fun h1 => ?_) (fun h1 => Tm.pure ?_)
      · have hku : k < s.Uses.length := by omega
        refine Tm.step (idx_ok hku) ?_
        have hu := hs.use _ (List.getElem_mem hku)
        rw [drop_cons hku] at hsum
        generalize s.Uses[k] = u at *
        simp only [sumF] at hsum
        refine Tm.bind (Q := (· = decide (badU l u))) (Tm.ite (fun h2 => Tm.pure ?_) (fun h2 => Tm.ite (fun h3 => Tm.pure ?_) (fun h3 => ?_))) ?_
        · have : badU l u := .inl h2
          simp [this]
        · have : badU l u := .inr (.inl (by omega))
          simp [this]
        · refine Tm.bind (rSign_tm hu.1 (by have := hu.2; omega)) ?_
          rintro _ rfl
          refine Tm.pure ?_
          have := sgn_neg (a := bv u.N)
          unfold badU
          by_cases h4 : bv u.N < 0
          · simp [h4, this.2 h4]
          · have : ¬ sgn (bv u.N) 0 < 0 := fun e => h4 (this.1 e)
            simp [h4, this]; omega
        rintro _ rfl
        refine Tm.ite (fun h2 => Tm.pure ?_) (fun h2 => ?_)
        · rw [if_pos (of_decide_eq_true h2)] at hsum
          exact .inr ⟨rfl, hsum⟩
        · have hbu : ¬ badU l u := by simpa using h2
          rw [if_neg hbu] at hsum
          have hi : 0 ≤ u.Index ∧ u.Index < l.length ∧ 0 ≤ bv u.N := by unfold badU at hbu; omega
          have hii : u.Index = (u.Index.toNat : Int) := by omega
          have hil : u.Index.toNat < l.length := by omega
          refine Tm.step (idx_gq hii hil) ?_
          have hqq := hq _ (getDq_mem hil)
          have hqn := he.get hil
          generalize hQ : l.getD u.Index.toNat ineq0 = q at *
          have hu4 := hu.2
          have hqb := hqq.2.2.2
          have inner := pw_loop (ρ := List Big) (body := fun N => rApply_b2 N (nV l : Int) u q) (fin := fun c => c) (bad := []) (n := nV l) (K := K + 4 + k) (K' := K + 4 + (k + 1)) (f := f) (g := fun j => f j + bv u.N * bv (q.Coefs.getD j big0)) (F := fun _ => False) (c0 := c) (by omega) hcf hcl
            (fun j hj c' hc' h3 h4 => by
              dsimp only [rApply_b2]
              have hqj := hqq.2.1 _ (getDb_mem (l := q.Coefs) (n := j) (by omega))
              have := hqj.2
              refine Tm.pos (by omega) (Tm.step (idx_gb rfl (by omega)) (Tm.step (idx_gb rfl (by omega)) (Tm.bind (rMul_tm hqj.1 hu.1 (by omega) (by omega)) ?_)))
              rintro m ⟨hm, hml⟩
              refine Tm.bind (rAdd_tm h3.dg.inB hm.dg.inB (by omega) (by omega)) ?_
              rintro a ⟨ha, hal⟩
              refine Tm.step (idx_gb rfl (by omega)) (Tm.step (upd1_i rfl (by omega)) (Tm.pure (.inl ⟨a, rfl, ?_, by omega, fun e => e⟩)))
              rw [h3.bv, hm.bv, Int.mul_comm] at ha; exact ha)
            (fun c' hc' => by dsimp only [rApply_b2]; exact Tm.neg (by omega) (Tm.pure rfl))
          refine Tm.bind inner ?_
          rintro c2 (⟨_, rfl, hc2, hc2l, -⟩ | ⟨-, j, hj, hF⟩)
          · refine Tm.bind (rMul_tm hqq.2.2.1 hu.1 (by omega) (by omega)) ?_
            rintro m ⟨hm, hml⟩
            have hb2 : ds.length ≤ K + 4 + k := hb.2
            refine Tm.bind (rAdd_tm hb.1 hm.dg.inB (show ds.length ≤ _ by omega) (by omega)) ?_
            rintro a ⟨ha, hal⟩
            dsimp only at hal
            refine Tm.pure ⟨⟨k + 1, _, by show iw ((k : Int) + 1) = _; rw [iw_eq] <;> omega, by omega, ?_, hc2, hc2l, ha.ok ?_⟩, ?_⟩
            · show sumF l s.Uses (fun _ => 0, 0) = sumF l (s.Uses.drop (k + 1)) (_, bv a)
              rw [ha.bv, hm.bv, hsum, Int.mul_comm (bv q.Bound)]
              unfold addF
              rw [hQ]
            · omega
            · show s.Uses.length - (iw ((k : Int) + 1)).toNat < s.Uses.length - ((k : Int)).toNat
              rw [iw_eq] <;> omega
          · exact hF.elim
      · have hkL : k = s.Uses.length := by omega
        subst hkL
        rw [List.drop_length] at hsum
        exact .inl ⟨f, c, neg, ds, rfl, hsum, hcf, fun j hj => by have := hcl j hj; omega, hb.mono (by omega)⟩
    · rintro _ (⟨f, c, neg, ds, rfl, hsum, hcf, hcl, hb⟩ | ⟨rfl, hsum⟩)
      · dsimp only
        have hb2 : ds.length ≤ K + 16 := hb.2
        have hdv := hs.div.2
        have inner := pw_loop (ρ := Sum (List Big) (Ineq × Bool)) (body := fun N => rApply_b3 N s (nV l : Int)) (fin := fun c => .inl c) (bad := .inr (ineq0, false)) (n := nV l) (K := K + 16) (K' := K + 20) (f := f) (g := fun j => f j / bv s.Divisor) (F := fun j => ¬ f j % bv s.Divisor = 0) (c0 := c) (by omega) hcf hcl
          (fun j hj c' hc' h3 h4 => by
            dsimp only [rApply_b3]
            refine Tm.pos (by have := hcf.1; omega) (Tm.step (idx_gb rfl (by omega)) (Tm.bind (rDivFloor_tm h3.dg.inB hs.div.1 (by omega) (by omega)) ?_))
            rintro ⟨qq, rr, oo⟩ hD
            have hquo := hD.quo
            have hrem := hD.rem
            dsimp only at hquo hrem
            rw [h3.bv, Int.fdiv_eq_ediv_of_nonneg _ (by omega)] at hquo
            rw [h3.bv, if_neg (by omega), Int.fmod_eq_emod_of_nonneg _ (by omega)] at hrem
            have hrl := hrem.len (k := 4) (by have := hs.div.abs; have m0 := Int.emod_nonneg (f j) (show bv s.Divisor ≠ 0 by omega); have m1 := Int.emod_lt_of_pos (f j) hd; omega)
            have hql := hquo.len (k := K + 16) (by have := (h3.ok h4).abs; rw [h3.bv] at this; have := Int.natAbs_ediv_le_natAbs (f j) (bv s.Divisor); omega)
            refine Tm.bind (rSign_tm hrem.dg.inB (show rr.Digits.length ≤ _ by omega)) ?_
            rintro _ rfl
            rw [hrem.bv]
            refine Tm.ite (fun h5 => Tm.pure (.inr ⟨rfl, fun e => h5 (sgn_zero.2 e)⟩)) (fun h5 => ?_)
            refine Tm.step (idx_gb rfl (by omega)) (Tm.step (upd1_i rfl (by omega)) (Tm.pure (.inl ⟨qq, rfl, hquo, by omega, fun e => e (sgn_zero.1 (by omega))⟩))))
          (fun c' hc' => by dsimp only [rApply_b3]; exact Tm.neg (by have := hcf.1; omega) (Tm.pure rfl))
        refine Tm.bind inner ?_
        rintro _ (⟨c2, rfl, hc2, hc2l, hall⟩ | ⟨rfl, j, hj, hF⟩)
        · refine Tm.bind (rDivFloor_tm hb.1 hs.div.1 (show ds.length ≤ _ by omega) (by omega)) ?_
          rintro ⟨qq, rr, oo⟩ hD
          have hquo := hD.quo
          dsimp only at hquo
          rw [Int.fdiv_eq_ediv_of_nonneg _ (by omega)] at hquo
          refine Tm.pure ?_
          unfold ApplyP
          rw [if_pos ⟨he, hd⟩, hsum]
          dsimp only
          rw [if_pos (fun j hj => Classical.not_not.1 (hall j hj))]
          exact ⟨rfl, hc2, hquo⟩
        · refine Tm.pure ?_
          unfold ApplyP
          rw [if_pos ⟨he, hd⟩, hsum]
          dsimp only
          rw [if_neg (fun h => hF (h j hj))]
      · refine Tm.pure ?_
        unfold ApplyP
        rw [if_pos ⟨he, hd⟩, hsum]
def InS (s : Step) : Prop := s.Uses.length ≤ 9223372036854775807 ∧ (∀ u ∈ s.Uses, In32 u.N) ∧ In32 s.Divisor
theorem rSmallStep_tm {s : Step} (hs : InS s) : Tm (fun N => rSmallStep N s) (fun r => r = true → OkS s) := by
  unfold rSmallStep
  refine Tm.bind (Tm.each (body := fun N => rSmallStep_b1 N s) s.Uses (fun u => u.N.Digits.length ≤ 4) (Q := fun r => r = .inr false ∨ (r = .inl () ∧ ∀ u ∈ s.Uses, u.N.Digits.length ≤ 4)) hs.1 ?_ ?_) ?_
  · intro n hn _
    dsimp only [rSmallStep_b1]
    refine Tm.pos (by omega) (Tm.step (idx_ok hn) (Tm.ite (fun h => Tm.pure (.inr ⟨_, rfl, .inl rfl⟩)) (fun h => Tm.pure (.inl ⟨rfl, by omega⟩))))
  · intro h
    dsimp only [rSmallStep_b1]
    exact Tm.neg (by omega) (Tm.pure ⟨_, rfl, .inr ⟨rfl, h⟩⟩)
  · rintro _ (rfl | ⟨rfl, h⟩)
    · exact Tm.pure (fun h => by cases h)
    · refine Tm.ite (fun h1 => Tm.pure (fun h2 => ?_)) (fun h1 => Tm.pure (fun h2 => by cases h2))
      have := of_decide_eq_true h2
      exact ⟨by omega, fun u hu => ⟨hs.2.1 u hu, h u hu⟩, hs.2.2, by omega⟩
end Go.D
