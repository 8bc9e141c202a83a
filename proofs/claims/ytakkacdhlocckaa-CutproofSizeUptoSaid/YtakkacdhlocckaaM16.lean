/-
  The laws of chapter 18 whose arguments' bulk is bounded. Plain theorems.
-/
import Derived.Test.YtakkacdhlocckaaM15
namespace Go.D
open Go Go.X
mutual
def bkP : Proof → Nat
  | ⟨steps, _, _, children⟩ => steps.length + bkPs children + 1
def bkPs : List Proof → Nat
  | [] => 0
  | c :: r => bkP c + bkPs r
end
theorem bkP_eq (p : Proof) : bkP p = p.Steps.length + bkPs p.Children + 1 := by cases p; simp [bkP]
theorem bkPs_mem : ∀ {l : List Proof} {c : Proof}, c ∈ l → bkP c ≤ bkPs l
  | a :: r, c, h => by
    simp only [bkPs]
    rcases List.mem_cons.1 h with rfl | h
    · omega
    · have := bkPs_mem h; omega
inductive InPr : Proof → Prop
  | mk {p : Proof} (h1 : ∀ s ∈ p.Steps, InS s) (h2 : p.Form.length ≤ 9223372036854775807) (h3 : ∀ b ∈ p.Form, In32 b) (h4 : In32 p.Bound) (h5 : p.Children.length ≤ 9223372036854775807) (h6 : ∀ c ∈ p.Children, InPr c) : InPr p
theorem Sm.mono : ∀ {n m : Nat} {p : Proof}, Sm n p → n ≤ m → Sm m p
  | 0, _, _, h, _ => h.elim
  | n + 1, 0, _, _, h => by omega
  | n + 1, m + 1, p, ⟨h1, h2, h3, h4, h5, h6, h7⟩, h => ⟨by omega, h2, h3, h4, h5, fun c hc => (h6 c hc).mono (by omega), h7⟩
theorem rweight_tm : ∀ (n : Nat) (p : Proof), bkP p ≤ n → n ≤ 1048576 → InPr p → Tm (fun N => rweight N p) (fun r => 1 ≤ r ∧ r ≤ 101 + 101 * (bkP p : Int) ∧ (r ≤ 100 → Sm r.toNat p)) := by
  intro n
  induction n with
  | zero => intro p h; rw [bkP_eq] at h; omega
  | succ n ih =>
    intro p hb hn hp
    have hbe := bkP_eq p
    cases hp with
    | mk h1 h2 h3 h4 h5 h6 =>
    refine Tm.succ ?_
    show Tm (fun N => rweight_step N (rweight N) p) _
    unfold rweight_step
    have hw : iw (1 + (p.Steps.length : Int)) = 1 + (p.Steps.length : Int) := by rw [iw_eq] <;> omega
    rw [hw]
    refine Tm.bind (Q := fun r => r = false → p.Form.length ≤ 6 ∧ (∀ b ∈ p.Form, OkB 4 b) ∧ OkB 4 p.Bound) (Tm.bind (rbigs_tm h2) ?_) ?_
    · intro r hr
      refine Tm.ite (fun h => Tm.pure (fun h => by cases h)) (fun h => Tm.pure (fun h' => ?_))
      have := hr (by simpa using h)
      have h7 := of_decide_eq_false h'
      exact ⟨this.1, fun b hb => ⟨h3 b hb, this.2 b hb⟩, h4, by omega⟩
    intro r hr
    refine Tm.ite (fun h => Tm.pure ⟨by decide, by omega, fun h' => absurd h' (by decide)⟩) (fun h => ?_)
    obtain ⟨f1, f2, f3⟩ := hr (by simpa using h)
    refine Tm.bind (Q := fun t : Sum Unit Int => t = .inr 101 ∨ (t = .inl () ∧ (p.Steps.length ≤ 99 → ∀ s ∈ p.Steps, OkS s))) ?_ ?_
    · by_cases hl : p.Steps.length ≤ 99
      · refine Tm.each (body := fun N => rweight_b1 N p) p.Steps OkS (by omega) ?_ ?_
        · intro k hk _
          dsimp only [rweight_b1]
          rw [hw]
          refine Tm.bind (Q := (· = true)) (Tm.pos (by omega) (Tm.pure (decide_eq_true (by omega)))) ?_
          rintro _ rfl
          refine Tm.pos rfl (Tm.step (idx_ok hk) (Tm.bind (rSmallStep_tm (h1 _ (List.getElem_mem hk))) ?_))
          intro t ht
          refine Tm.ite (fun h => Tm.pure (.inr ⟨_, rfl, .inl rfl⟩)) (fun h => Tm.pure (.inl ⟨rfl, ht (by simpa using h)⟩))
        · intro hall
          dsimp only [rweight_b1]
          refine Tm.bind (Q := (· = false)) (Tm.neg (by omega) (Tm.pure rfl)) ?_
          rintro _ rfl
          exact Tm.neg (by simp) (Tm.pure ⟨_, rfl, .inr ⟨rfl, fun _ => hall⟩⟩)
      · refine Tm.loop (fun _ => True) (fun _ => 0) trivial ?_
        intro i _
        dsimp only [rweight_b1]
        rw [hw]
        refine Tm.bind (Q := (· = false)) (Tm.ite (fun _ => Tm.pure (decide_eq_false (by omega))) (fun _ => Tm.pure rfl)) ?_
        rintro _ rfl
        exact Tm.neg (by simp) (Tm.pure (.inr ⟨rfl, fun h => absurd h hl⟩))
    rintro _ (rfl | ⟨rfl, hsteps⟩)
    · exact Tm.pure ⟨by decide, by omega, fun h' => absurd h' (by decide)⟩
    refine Tm.bind (Q := fun r => 1 ≤ r ∧ r ≤ 101 + 101 * (bkP p : Int) ∧ (r ≤ 100 → Sm r.toNat p))
      (Tm.loop (fun t : Int × Int => ∃ k : Nat, t.2 = k ∧ k ≤ p.Children.length ∧ 1 + (p.Steps.length : Int) ≤ t.1 ∧ t.1 ≤ 101 + 101 * (bkP p : Int) ∧ ∀ j, (hj : j < p.Children.length) → j < k → ∃ r : Int, 1 ≤ r ∧ r + 1 ≤ t.1 ∧ (r ≤ 100 → Sm r.toNat p.Children[j])) (fun t => p.Children.length - t.2.toNat)
        ⟨0, rfl, Nat.zero_le _, Int.le_refl _, by dsimp only; omega, fun j _ h => absurd h (by omega)⟩ ?_) (fun r h => Tm.pure h)
    rintro ⟨m, kk⟩ ⟨k, rfl, hk, hm0, hm1, hc⟩
    dsimp only [rweight_b2] at *
    refine Tm.bind (Q := (· = decide (k < p.Children.length ∧ m ≤ 100))) (Tm.ite (fun h => Tm.pure ?_) (fun h => Tm.pure ?_)) ?_
    · have : k < p.Children.length := by omega
      simp [this]
    · have : ¬ k < p.Children.length := by omega
      simp [this]
    rintro _ rfl
    refine Tm.ite (fun h => ?_) (fun h => Tm.pure ?_)
    · obtain ⟨g1, g2⟩ := of_decide_eq_true h
      refine Tm.step (idx_ok g1) ?_
      have hmem := List.getElem_mem g1
      have hbk := bkPs_mem hmem
      refine Tm.bind (ih _ (by omega) (by omega) (h6 _ hmem)) ?_
      rintro r ⟨r1, r2, r3⟩
      have e : iw (m + r) = m + r := by rw [iw_eq] <;> omega
      refine Tm.pure ⟨⟨k + 1, by show iw ((k : Int) + 1) = _; rw [iw_eq] <;> omega, by omega, by dsimp only; omega, by dsimp only; omega, fun j hj hjk => ?_⟩, ?_⟩
      · dsimp only
        rw [e]
        by_cases hjk' : j < k
        · obtain ⟨r', q1, q2, q3⟩ := hc j hj hjk'
          exact ⟨r', q1, by omega, q3⟩
        · obtain rfl : j = k := by omega
          exact ⟨r, r1, by omega, r3⟩
      · show p.Children.length - (iw ((k : Int) + 1)).toNat < p.Children.length - ((k : Int)).toNat
        rw [iw_eq] <;> omega
    · have h : ¬ (k < p.Children.length ∧ m ≤ 100) := by simpa using h
      refine ⟨by omega, hm1, fun hm => ?_⟩
      have hkl : k = p.Children.length := by omega
      obtain ⟨q, hq⟩ : ∃ q, m.toNat = q + 1 := ⟨m.toNat - 1, by omega⟩
      rw [hq]
      refine ⟨by omega, hsteps (by omega), f1, f2, f3, fun c hcm => ?_, fun c hcm => ?_⟩
      · obtain ⟨j, hj, rfl⟩ := List.mem_iff_getElem.1 hcm
        obtain ⟨r', q1, q2, q3⟩ := hc j hj (by omega)
        exact (q3 (by omega)).mono (by omega)
      · cases h6 c hcm with
        | mk _ _ _ _ g5 _ => exact g5
theorem rSmallProof_tm {p : Proof} (hb : bkP p ≤ 1048576) (hp : InPr p) : Tm (fun N => rSmallProof N p) (fun t => t = true → Sm 40 p) := by
  unfold rSmallProof
  refine Tm.bind (rweight_tm _ p (Nat.le_refl _) hb hp) ?_
  rintro r ⟨h1, h2, h3⟩
  refine Tm.pure (fun h => ?_)
  have := of_decide_eq_true h
  exact (h3 (by omega)).mono (by omega)
theorem size_tm : ∀ (n : Nat) (p : Proof), bkP p ≤ n → InPr p → ∃ v, Tm (fun N => cSize N p) (· = v) ∧ Tm (fun N => rSize N p) (· = v) := by
  intro n
  induction n with
  | zero => intro p h; rw [bkP_eq] at h; omega
  | succ n ih =>
    intro p hb hp
    have hbe := bkP_eq p
    have h6 : ∀ c ∈ p.Children, InPr c := by cases hp; assumption
    have h5 : p.Children.length ≤ 9223372036854775807 := by cases hp; assumption
    have hch : ∀ c : Proof, ∃ v : Int, c ∈ p.Children → Tm (fun N => cSize N c) (· = v) ∧ Tm (fun N => rSize N c) (· = v) := by
      intro c
      by_cases hc : c ∈ p.Children
      · have := bkPs_mem hc
        obtain ⟨v, hv⟩ := ih c (by omega) (h6 c hc)
        exact ⟨v, fun _ => hv⟩
      · exact ⟨0, fun h => absurd h hc⟩
    let sz : Proof → Int := fun c => Classical.choose (hch c)
    have hsz : ∀ c ∈ p.Children, Tm (fun N => cSize N c) (· = sz c) ∧ Tm (fun N => rSize N c) (· = sz c) := fun c hc => Classical.choose_spec (hch c) hc
    let n0 : Int := if p.Children.length > 0 then iw ((p.Steps.length : Int) + 1) else p.Steps.length
    let acc : Nat → Int := fun k => (p.Children.take k).foldl (fun a c => iw (a + sz c)) n0
    have hacc : ∀ k, (h : k < p.Children.length) → acc (k + 1) = iw (acc k + sz p.Children[k]) := fun k h => by
      simp only [acc]
      rw [List.take_succ_eq_append_getElem h, List.foldl_append]; rfl
    refine ⟨acc p.Children.length, Tm.succ ?_, Tm.succ ?_⟩
    · show Tm (fun N => cSize_step N (cSize N) p) _
      unfold cSize_step
      refine Tm.bind (Q := (· = n0)) (Tm.ite (fun h => Tm.pure ?_) (fun h => Tm.pure ?_)) ?_
      · simp only [n0]; rw [if_pos (by omega)]
      · simp only [n0]; rw [if_neg (by omega)]
      rintro _ rfl
      refine Tm.bind (Tm.loop (fun t : Int × Int => ∃ k : Nat, t.2 = k ∧ k ≤ p.Children.length ∧ t.1 = acc k) (fun t => p.Children.length - t.2.toNat) (Q := (· = acc p.Children.length)) ⟨0, rfl, Nat.zero_le _, rfl⟩ ?_) (fun r h => Tm.pure h)
      rintro ⟨m, kk⟩ ⟨k, rfl, hk, rfl⟩
      dsimp only [cSize_b1]
      refine Tm.ite (fun h => ?_) (fun h => Tm.pure ?_)
      · have hkl : k < p.Children.length := by omega
        refine Tm.step (idx_ok hkl) (Tm.bind (hsz _ (List.getElem_mem hkl)).1 ?_)
        intro r hr
        refine Tm.pure ⟨⟨k + 1, by show iw ((k : Int) + 1) = _; rw [iw_eq] <;> omega, by omega, by show iw (acc k + r) = _; rw [hacc k hkl, hr]⟩, ?_⟩
        show p.Children.length - (iw ((k : Int) + 1)).toNat < p.Children.length - ((k : Int)).toNat
        rw [iw_eq] <;> omega
      · have : k = p.Children.length := by omega
        subst this; rfl
    · show Tm (fun N => rSize_step N (rSize N) p) _
      unfold rSize_step
      refine Tm.bind (Q := (· = n0)) (Tm.ite (fun h => Tm.pure ?_) (fun h => Tm.pure ?_)) ?_
      · simp only [n0]; rw [if_pos (by omega)]
      · simp only [n0]; rw [if_neg (by omega)]
      rintro _ rfl
      refine Tm.bind (Tm.loop (fun t : Int × Int => ∃ k : Nat, t.2 = k ∧ k ≤ p.Children.length ∧ t.1 = acc k) (fun t => p.Children.length - t.2.toNat) (Q := (· = acc p.Children.length)) ⟨0, rfl, Nat.zero_le _, rfl⟩ ?_) (fun r h => Tm.pure h)
      rintro ⟨m, kk⟩ ⟨k, rfl, hk, rfl⟩
      dsimp only [rSize_b1]
      refine Tm.ite (fun h => ?_) (fun h => Tm.pure ?_)
      · have hkl : k < p.Children.length := by omega
        refine Tm.step (idx_ok hkl) (Tm.bind (hsz _ (List.getElem_mem hkl)).2 ?_)
        intro r hr
        refine Tm.pure ⟨⟨k + 1, by show iw ((k : Int) + 1) = _; rw [iw_eq] <;> omega, by omega, by show iw (acc k + r) = _; rw [hacc k hkl, hr]⟩, ?_⟩
        show p.Children.length - (iw ((k : Int) + 1)).toNat < p.Children.length - ((k : Int)).toNat
        rw [iw_eq] <;> omega
      · have : k = p.Children.length := by omega
        subst this; rfl
theorem cSum_tm {us : List Use} (hl : us.length ≤ 12) (hu : ∀ u ∈ us, OkB 1048576 u.N) : Tm (fun N => cSum N us) (fun r => ∃ vs d, r = Proof.mk [Step.mk vs d] [] big0 [] ∧ Is d 1 ∧ vs.length = us.length ∧ ∀ j, (h : j < vs.length) → (h' : j < us.length) → vs[j].Index = us[j].Index ∧ Is vs[j].N (bv us[j].N) ∧ vs[j].N.Digits.length ≤ 1048576) := by
  unfold cSum
  refine Tm.bind (bOf_tm (n := 1) (by decide) (by decide)) ?_
  rintro d ⟨hd, hdl⟩
  refine Tm.bind (Q := fun vs : List Use => vs.length = us.length ∧ ∀ j, (h : j < vs.length) → (h' : j < us.length) → vs[j].Index = us[j].Index ∧ Is vs[j].N (bv us[j].N) ∧ vs[j].N.Digits.length ≤ 1048576)
    (Tm.loop (fun t : List Use × Int => ∃ k : Nat, t.2 = k ∧ k ≤ us.length ∧ t.1.length = k ∧ ∀ j, (h : j < t.1.length) → (h' : j < us.length) → t.1[j].Index = us[j].Index ∧ Is t.1[j].N (bv us[j].N) ∧ t.1[j].N.Digits.length ≤ 1048576) (fun t => us.length - t.2.toNat)
      ⟨0, rfl, Nat.zero_le _, rfl, fun j h => absurd h (by simp)⟩ ?_) (fun vs h => Tm.pure ⟨vs, d, rfl, hd, h.1, h.2⟩)
  rintro ⟨vs, kk⟩ ⟨k, rfl, hk, hvl, hv⟩
  dsimp only [cSum_b1] at *
  refine Tm.ite (fun h => ?_) (fun h => Tm.pure ?_)
  · have hkl : k < us.length := by omega
    refine Tm.step (idx_ok hkl) ?_
    have hb := hu _ (List.getElem_mem hkl)
    refine Tm.bind (bNormal_tm hb.1 (by have := hb.2; omega)) ?_
    rintro y ⟨hy, hyl⟩
    refine Tm.step (apnd_ok (by simp only [List.length_cons, List.length_nil]; omega) (by decide)) (Tm.pure ⟨⟨k + 1, by show iw ((k : Int) + 1) = _; rw [iw_eq] <;> omega, by omega, by simp; omega, fun j hj hj' => ?_⟩, ?_⟩)
    · dsimp only at hj ⊢
      rcases Nat.lt_or_ge j vs.length with h1 | h1
      · rw [List.getElem_append_left h1]; exact hv j h1 hj'
      · have hjk : j = k := by simp at hj; omega
        subst hjk
        rw [List.getElem_append_right h1]
        have e : j - vs.length = 0 := by omega
        simp only [e, List.getElem_cons_zero]
        exact ⟨trivial, hy, by have := hb.2; omega⟩
    · show us.length - (iw ((k : Int) + 1)).toNat < us.length - ((k : Int)).toNat
      rw [iw_eq] <;> omega
  · obtain rfl : k = us.length := by omega
    exact ⟨hvl, hv⟩
theorem sgn_self {a : Int} : sgn a a = 0 := by unfold sgn; rw [if_neg (by omega), if_neg (by omega)]
theorem lawSize_tm {p : Proof} {us : List Use} (hb : bkP p ≤ 1048576) (hp : InPr p) (hul : us.length ≤ 9223372036854775807) (hu : ∀ u ∈ us, OkB 1048576 u.N) : Tm (fun N => lawSize N p us) (fun r => r = true) := by
  unfold lawSize
  refine Tm.bind (Q := fun r => r = false → us.length ≤ 12) (Tm.bind awake_tm ?_) ?_
  · rintro _ rfl
    refine Tm.neg (by simp) (Tm.bind (rSmallProof_tm hb hp) ?_)
    intro t ht
    exact Tm.ite (fun h => Tm.pure (fun h => by cases h)) (fun h => Tm.pure (fun h => by have := of_decide_eq_false h; omega))
  · intro r hr
    refine Tm.ite (fun h => Tm.bind awake_tm (fun _ h => Tm.pure h)) (fun h => ?_)
    have h12 := hr (by simpa using h)
    refine Tm.bind (cSum_tm h12 hu) ?_
    rintro _ ⟨vs, d, rfl, hd, hvl, hv⟩
    obtain ⟨v, hc, hr'⟩ := size_tm _ p (Nat.le_refl _) hp
    refine Tm.bind (Q := (· = false)) (Tm.bind hc ?_) ?_
    · intro a ha
      refine Tm.bind hr' ?_
      intro b hb'
      refine Tm.neg (by omega) (Tm.neg (by simp) (Tm.neg (by simp) (Tm.neg (by simp) (Tm.neg (by simp) (Tm.step (idx_i (n := 0) rfl (by simp)) ?_)))))
      unfold lbig
      refine Tm.bind (Q := fun r => Is r 1) ((Tm.bind (rOf_tm (n := 1) (by decide) (by decide)) (fun r h => Tm.pure h)).mono (fun r h => h.1)) ?_
      intro o ho
      obtain rfl := hd.uniq ho
      refine Tm.bind (rSame_refl (show d.Digits.length ≤ _ by have := hd.len (k := 1) (by decide); omega)) ?_
      rintro _ rfl
      refine Tm.neg (by simp) (Tm.step (idx_i (n := 0) rfl (by simp)) (Tm.pure ?_))
      simp [hvl]
    rintro _ rfl
    refine Tm.neg (by simp) (Tm.step (idx_i (n := 0) rfl (by simp)) ?_)
    simp only [List.getElem_cons_zero]
    refine Tm.bind (Tm.each (body := fun N => lawSize_b1 N us (Step.mk vs d)) vs (fun _ => True) (Q := fun t => t = .inl ()) (by omega) ?_ ?_) ?_
    · intro n hn _
      dsimp only [lawSize_b1]
      have hnu : n < us.length := by omega
      obtain ⟨g1, g2, g3⟩ := hv n hn hnu
      refine Tm.pos (by omega) (Tm.step (idx_ok hn) ?_)
      refine Tm.bind (Q := (· = false)) (Tm.step (idx_ok hnu) (Tm.neg (by omega) (Tm.step (idx_ok hnu) (Tm.bind (rCompare_tm g2.dg.inB (hu _ (List.getElem_mem hnu)).1 (by omega) (by have := (hu _ (List.getElem_mem hnu)).2; omega)) ?_)))) ?_
      · rintro _ rfl
        rw [g2.bv, sgn_self]
        exact Tm.pure (by simp)
      rintro _ rfl
      exact Tm.neg (by simp) (Tm.pure (.inl ⟨rfl, trivial⟩))
    · intro _
      dsimp only [lawSize_b1]
      exact Tm.neg (by omega) (Tm.pure ⟨_, rfl, rfl⟩)
    · rintro _ rfl
      exact Tm.pure rfl
end Go.D
