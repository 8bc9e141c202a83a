/-
  Checking a proof, by both programs; a proof that is accepted is right. Plain theorems.
-/
import Derived.Test.YtakkacdhlocckaaM14
namespace Go.D
open Go Go.X
theorem IsF.snoc {n : Nat} {c : List Big} {f : Nat → Int} {y : Big} (h : IsF n c f) (hy : Is y (f n)) : IsF (n + 1) (c ++ [y]) f := by
  refine ⟨by simp [h.1], fun j hj => ?_⟩
  rcases Nat.lt_or_ge j n with h1 | h1
  · have := h.2 j h1
    rwa [List.getD_eq_getElem?_getD, List.getElem?_append_left (by rw [h.1]; exact h1), ← List.getD_eq_getElem?_getD]
  · obtain rfl : j = n := by omega
    rw [List.getD_eq_getElem?_getD, List.getElem?_append_right (by rw [h.1]; exact Nat.le_refl _), h.1]
    simpa using hy
theorem negated_gen {K : Nat} {l : List Big} {b : Big} (hK : K ≤ 1073741824) (hl : l.length ≤ K) (hlb : ∀ x ∈ l, OkB K x) (hb : OkB K b) :
    Tm (fun N => negated N l b) (fun r => IsF l.length r.Coefs (fun j => - bv (l.getD j big0)) ∧ Is r.Bound (bv b) ∧ OkI K r) := by
  unfold negated
  refine Tm.bind (bNormal_tm hb.1 (by have := hb.2; omega)) ?_
  rintro b' ⟨hb', hbl⟩
  refine Tm.bind (Q := fun c : List Big => IsF l.length c (fun j => - bv (l.getD j big0)) ∧ ∀ x ∈ c, OkB K x)
    (Tm.loop (fun t : List Big × Int => ∃ k : Nat, t.2 = k ∧ k ≤ l.length ∧ IsF k t.1 (fun j => - bv (l.getD j big0)) ∧ ∀ x ∈ t.1, OkB K x) (fun t => l.length - t.2.toNat)
      ⟨0, rfl, Nat.zero_le _, ⟨rfl, fun j hj => absurd hj (by omega)⟩, fun x hx => by cases hx⟩ ?_) ?_
  · rintro ⟨c, kk⟩ ⟨k, rfl, hk, hc, hcb⟩
    dsimp only [negated_b1] at *
    have hcl := hc.1
    refine Tm.ite (fun h => ?_) (fun h => Tm.pure ?_)
    · refine Tm.step (idx_gb rfl (by omega)) ?_
      have hx := hlb _ (getDb_mem (l := l) (n := k) (by omega))
      refine Tm.bind (bNeg_tm hx.1 (by have := hx.2; omega)) ?_
      rintro y ⟨hy, hyl⟩
      refine Tm.step (apnd_ok (by simp only [List.length_cons, List.length_nil]; omega) (by decide)) (Tm.pure ⟨⟨k + 1, by show iw ((k : Int) + 1) = _; rw [iw_eq] <;> omega, by omega, hc.snoc hy, fun z hz => ?_⟩, ?_⟩)
      · rcases List.mem_append.1 hz with h1 | h1
        · exact hcb z h1
        · rcases List.mem_singleton.1 h1 with rfl
          exact hy.ok (by have := hx.2; omega)
      · show l.length - (iw ((k : Int) + 1)).toNat < l.length - ((k : Int)).toNat
        rw [iw_eq] <;> omega
    · obtain rfl : k = l.length := by omega
      exact ⟨hc, hcb⟩
  · rintro c ⟨hc, hcb⟩
    exact Tm.pure ⟨hc, hb', by dsimp only; rw [hc.1]; exact hl, hcb, hb'.ok (by have := hb.2; omega)⟩
theorem rflip_gen {K : Nat} {q : Ineq} {b : Big} (hK : K ≤ 1073741824) (hl : q.Coefs.length ≤ K) (hlb : ∀ x ∈ q.Coefs, OkB K x) (hb : OkB K b) :
    Tm (fun N => rflip N q b) (fun r => IsF q.Coefs.length r.Coefs (fun j => - bv (q.Coefs.getD j big0)) ∧ Is r.Bound (bv b)) := by
  unfold rflip
  refine Tm.bind (rNormal_tm hb.1 (by have := hb.2; omega)) ?_
  rintro b' ⟨hb', hbl⟩
  refine Tm.bind (Q := fun c : List Big => IsF q.Coefs.length c (fun j => - bv (q.Coefs.getD j big0)))
    (Tm.loop (fun t : List Big × Int => ∃ k : Nat, t.2 = k ∧ k ≤ q.Coefs.length ∧ IsF k t.1 (fun j => - bv (q.Coefs.getD j big0))) (fun t => q.Coefs.length - t.2.toNat)
      ⟨0, rfl, Nat.zero_le _, ⟨rfl, fun j hj => absurd hj (by omega)⟩⟩ ?_) ?_
  · rintro ⟨c, kk⟩ ⟨k, rfl, hk, hc⟩
    dsimp only [rflip_b1] at *
    have hcl := hc.1
    refine Tm.ite (fun h => ?_) (fun h => Tm.pure ?_)
    · refine Tm.step (idx_gb rfl (by omega)) ?_
      have hx := hlb _ (getDb_mem (l := q.Coefs) (n := k) (by omega))
      refine Tm.bind (rNeg_tm hx.1 (by have := hx.2; omega)) ?_
      rintro y ⟨hy, hyl⟩
      refine Tm.step (apnd_ok (by simp only [List.length_cons, List.length_nil]; omega) (by decide)) (Tm.pure ⟨⟨k + 1, by show iw ((k : Int) + 1) = _; rw [iw_eq] <;> omega, by omega, hc.snoc hy⟩, ?_⟩)
      show q.Coefs.length - (iw ((k : Int) + 1)).toNat < q.Coefs.length - ((k : Int)).toNat
      rw [iw_eq] <;> omega
    · obtain rfl : k = q.Coefs.length := by omega
      exact hc
  · intro c hc
    exact Tm.pure ⟨hc, hb'⟩
def StepsP : List Ineq → List Step → Option (List Ineq) → Prop
  | l, [], r => r = some l
  | l, s :: ss, r => ∃ q, (ApplyP l s (q, true) ∧ StepsP (l ++ [q]) ss r) ∨ (ApplyP l s (q, false) ∧ r = none)
theorem StepsP.uniq : ∀ {ss : List Step} {l : List Ineq} {r r' : Option (List Ineq)}, StepsP l ss r → StepsP l ss r' → r = r'
  | [], l, r, r', h, h' => h.trans h'.symm
  | s :: ss, l, r, r', ⟨q, h⟩, ⟨q', h'⟩ => by
    rcases h with ⟨h1, h2⟩ | ⟨h1, h2⟩ <;> rcases h' with ⟨h1', h2'⟩ | ⟨h1', h2'⟩
    · have := h1.uniq h1'
      cases this
      exact h2.uniq h2'
    · have := h1.uniq h1'; cases this
    · have := h1.uniq h1'; cases this
    · exact h2.trans h2'.symm
theorem ApplyP.ok {K : Nat} {l : List Ineq} {s : Step} (hK : K ≤ 536870912) (hl : l.length ≤ 1073741824) (hq : ∀ q ∈ l, OkI K q) (hs : OkS s) {r : Ineq × Bool} (h : ApplyP l s r) : OkI (K + 20) r.1 := by
  obtain ⟨N, a, _, ha, hb⟩ := (cApply_tm hK hl hq hs).get
  rw [h.uniq ha]; exact hb
theorem snocq {K : Nat} {e : List Ineq} {q : Ineq} (h : ∀ x ∈ e, OkI K x) (hq : OkI K q) : ∀ x ∈ e ++ [q], OkI K x := fun x hx => by
  rcases List.mem_append.1 hx with h1 | h1
  · exact h x h1
  · rcases List.mem_singleton.1 h1 with rfl; exact hq
theorem OkI.mono {K K' : Nat} {q : Ineq} (h : OkI K q) (hK : K ≤ K') : OkI K' q := ⟨by have := h.1; omega, fun b hb => (h.2.1 b hb).mono hK, h.2.2.mono hK⟩
theorem cSteps_tm {K : Nat} {p : Proof} {l : List Ineq} (hK : K + 20 * p.Steps.length ≤ 536870912) (hl : l.length + p.Steps.length ≤ 1073741824) (hq : ∀ q ∈ l, OkI K q) (hp : ∀ s ∈ p.Steps, OkS s) :
    Tm (fun N => loopM (cCheck_b1 N p) N (l, 0)) (fun t => (∃ e, t = .inl e ∧ StepsP l p.Steps (some e) ∧ (∀ q ∈ e, OkI (K + 20 * p.Steps.length) q) ∧ e.length = l.length + p.Steps.length) ∨ (t = .inr false ∧ StepsP l p.Steps none)) := by
  refine Tm.loop (fun t : List Ineq × Int => ∃ k : Nat, t.2 = k ∧ k ≤ p.Steps.length ∧ (∀ r, StepsP t.1 (p.Steps.drop k) r → StepsP l p.Steps r) ∧ (∀ q ∈ t.1, OkI (K + 20 * k) q) ∧ t.1.length = l.length + k) (fun t => p.Steps.length - t.2.toNat)
    ⟨0, rfl, Nat.zero_le _, fun r h => h, hq, rfl⟩ ?_
  rintro ⟨e, kk⟩ ⟨k, rfl, hk, hr, he, hel⟩
  dsimp only [cCheck_b1] at *
  refine Tm.ite (fun h => ?_) (fun h => Tm.pure ?_)
  · have hks : k < p.Steps.length := by omega
    refine Tm.step (idx_ok hks) ?_
    have hs := hp _ (List.getElem_mem hks)
    rw [List.drop_eq_getElem_cons hks] at hr
    generalize p.Steps[k] = s at *
    refine Tm.bind (cApply_tm (K := K + 20 * k) (by omega) (by omega) he hs) ?_
    rintro ⟨q, ok⟩ ⟨ha, hao⟩
    refine Tm.ite (fun h1 => Tm.pure (.inr ⟨rfl, ?_⟩)) (fun h1 => ?_)
    · have : ok = false := by simpa using h1
      subst this
      exact hr _ ⟨q, .inr ⟨ha, rfl⟩⟩
    · have : ok = true := by simpa using h1
      subst this
      refine Tm.step (apnd_ok (by simp only [List.length_cons, List.length_nil]; omega) (by decide)) (Tm.pure ⟨⟨k + 1, by show iw ((k : Int) + 1) = _; rw [iw_eq] <;> omega, by omega, fun r h2 => hr r ⟨q, .inl ⟨ha, h2⟩⟩, snocq (fun x hx => (he x hx).mono (by omega)) (hao.mono (by omega)), by simp; omega⟩, ?_⟩)
      show p.Steps.length - (iw ((k : Int) + 1)).toNat < p.Steps.length - ((k : Int)).toNat
      rw [iw_eq] <;> omega
  · obtain rfl : k = p.Steps.length := by omega
    rw [List.drop_length] at hr
    exact .inl ⟨e, rfl, hr _ rfl, he, hel⟩
theorem rSteps_tm {K : Nat} {p : Proof} {l : List Ineq} (hK : K + 20 * p.Steps.length ≤ 536870912) (hl : l.length + p.Steps.length ≤ 1073741824) (hq : ∀ q ∈ l, OkI K q) (hp : ∀ s ∈ p.Steps, OkS s) :
    Tm (fun N => loopM (rCheck_b1 N p) N (l, 0)) (fun t => (∃ e, t = .inl e ∧ StepsP l p.Steps (some e)) ∨ (t = .inr false ∧ StepsP l p.Steps none)) := by
  refine Tm.loop (fun t : List Ineq × Int => ∃ k : Nat, t.2 = k ∧ k ≤ p.Steps.length ∧ (∀ r, StepsP t.1 (p.Steps.drop k) r → StepsP l p.Steps r) ∧ (∀ q ∈ t.1, OkI (K + 20 * k) q) ∧ t.1.length = l.length + k) (fun t => p.Steps.length - t.2.toNat)
    ⟨0, rfl, Nat.zero_le _, fun r h => h, hq, rfl⟩ ?_
  rintro ⟨e, kk⟩ ⟨k, rfl, hk, hr, he, hel⟩
  dsimp only [rCheck_b1] at *
  refine Tm.ite (fun h => ?_) (fun h => Tm.pure ?_)
  · have hks : k < p.Steps.length := by omega
    refine Tm.step (idx_ok hks) ?_
    have hs := hp _ (List.getElem_mem hks)
    rw [List.drop_eq_getElem_cons hks] at hr
    generalize p.Steps[k] = s at *
    refine Tm.bind (rApply_tm (K := K + 20 * k) (by omega) (by omega) he hs) ?_
    rintro ⟨q, ok⟩ ha
    have hao := ha.ok (K := K + 20 * k) (by omega) (by omega) he hs
    refine Tm.ite (fun h1 => Tm.pure (.inr ⟨rfl, ?_⟩)) (fun h1 => ?_)
    · have : ok = false := by simpa using h1
      subst this
      exact hr _ ⟨q, .inr ⟨ha, rfl⟩⟩
    · have : ok = true := by simpa using h1
      subst this
      refine Tm.step (apnd_ok (by simp only [List.length_cons, List.length_nil]; omega) (by decide)) (Tm.pure ⟨⟨k + 1, by show iw ((k : Int) + 1) = _; rw [iw_eq] <;> omega, by omega, fun r h2 => hr r ⟨q, .inl ⟨ha, h2⟩⟩, snocq (fun x hx => (he x hx).mono (by omega)) (hao.mono (by omega)), by simp; omega⟩, ?_⟩)
      show p.Steps.length - (iw ((k : Int) + 1)).toNat < p.Steps.length - ((k : Int)).toNat
      rw [iw_eq] <;> omega
  · obtain rfl : k = p.Steps.length := by omega
    rw [List.drop_length] at hr
    exact .inl ⟨e, rfl, hr _ rfl⟩
def dotF (f g : Nat → Int) : Nat → Int
  | 0 => 0
  | n + 1 => dotF f g n + f n * g n
def cf (q : Ineq) (j : Nat) : Int := bv (q.Coefs.getD j big0)
def Sat (n : Nat) (x : Nat → Int) (q : Ineq) : Prop := q.Coefs.length = n ∧ dotF (cf q) x n ≤ bv q.Bound
theorem dotF_congr {f f' g : Nat → Int} : ∀ {n : Nat}, (∀ j, j < n → f j = f' j) → dotF f g n = dotF f' g n
  | 0, _ => rfl
  | n + 1, h => by simp only [dotF]; rw [dotF_congr (n := n) (fun j hj => h j (by omega)), h n (by omega)]
theorem dotF_add {f h g : Nat → Int} {k : Int} : ∀ n, dotF (fun j => f j + k * h j) g n = dotF f g n + k * dotF h g n
  | 0 => by simp [dotF]
  | n + 1 => by simp only [dotF, dotF_add n]; grind
theorem dotF_mul {f g : Nat → Int} {k : Int} : ∀ n, dotF (fun j => k * f j) g n = k * dotF f g n
  | 0 => by simp [dotF]
  | n + 1 => by simp only [dotF, dotF_mul n]; grind
theorem dotF_zero {g : Nat → Int} : ∀ n, dotF (fun _ => 0) g n = 0
  | 0 => rfl
  | n + 1 => by simp [dotF, dotF_zero n]
theorem sum_sat {l : List Ineq} {x : Nat → Int} (hl : ∀ q ∈ l, Sat (nV l) x q) : ∀ (us : List Use) (a r : (Nat → Int) × Int), sumF l us a = some r → dotF a.1 x (nV l) ≤ a.2 → dotF r.1 x (nV l) ≤ r.2
  | [], a, r, h, ha => by cases h; exact ha
  | u :: us, a, r, h, ha => by
    simp only [sumF] at h
    split at h
    · cases h
    · rename_i hb
      have hi : 0 ≤ u.Index ∧ u.Index < l.length ∧ 0 ≤ bv u.N := by unfold badU at hb; omega
      have hs := hl _ (getDq_mem (l := l) (n := u.Index.toNat) (by omega))
      refine sum_sat hl us _ r h ?_
      show dotF (fun j => a.1 j + bv u.N * cf (l.getD u.Index.toNat ineq0) j) x (nV l) ≤ a.2 + bv u.N * bv (l.getD u.Index.toNat ineq0).Bound
      rw [dotF_add]
      have := Int.mul_le_mul_of_nonneg_left hs.2 hi.2.2
      omega
theorem apply_sat {l : List Ineq} {s : Step} {q : Ineq} {x : Nat → Int} (h : ApplyP l s (q, true)) (hl : ∀ q ∈ l, Sat (nV l) x q) : evenV l ∧ Sat (nV l) x q := by
  unfold ApplyP at h
  split at h
  · rename_i hc
    refine ⟨hc.1, ?_⟩
    cases hs : sumF l s.Uses (fun _ => 0, 0) with
    | none => rw [hs] at h; cases h
    | some a =>
      rw [hs] at h
      obtain ⟨f, b⟩ := a
      dsimp only at h
      split at h
      · rename_i hd
        have h1 := sum_sat hl s.Uses _ _ hs (by rw [dotF_zero]; exact Int.le_refl _)
        refine ⟨h.2.1.1, ?_⟩
        have e1 : dotF (cf q) x (nV l) = dotF (fun j => f j / bv s.Divisor) x (nV l) := dotF_congr fun j hj => (h.2.1.2 j hj).bv
        have e2 : dotF f x (nV l) = bv s.Divisor * dotF (fun j => f j / bv s.Divisor) x (nV l) := by
          rw [← dotF_mul]
          exact dotF_congr fun j hj => (Int.mul_ediv_cancel' (Int.dvd_of_emod_eq_zero (hd j hj))).symm
        rw [e1]
        rw [show bv q.Bound = b / bv s.Divisor from h.2.2.bv]
        rw [e2] at h1
        rw [Int.mul_comm] at h1
        exact Int.le_ediv_of_mul_le hc.2 h1
      · cases h
  · cases h
theorem nV_app {l : List Ineq} {q : Ineq} (h : l ≠ []) : nV (l ++ [q]) = nV l := by
  cases l with
  | nil => exact absurd rfl h
  | cons a r => rfl
theorem steps_sat {x : Nat → Int} : ∀ (ss : List Step) (l e : List Ineq), l ≠ [] → StepsP l ss (some e) → (∀ q ∈ l, Sat (nV l) x q) → e ≠ [] ∧ nV e = nV l ∧ ∀ q ∈ e, Sat (nV e) x q
  | [], l, e, hn, h, hl => by cases h; exact ⟨hn, rfl, hl⟩
  | s :: ss, l, e, hn, ⟨q, h⟩, hl => by
    rcases h with ⟨h1, h2⟩ | ⟨_, h2⟩
    · have h3 := (apply_sat h1 hl).2
      have := steps_sat ss (l ++ [q]) e (by simp) h2 (fun y hy => by
        rw [nV_app hn]
        rcases List.mem_append.1 hy with h4 | h4
        · exact hl y h4
        · rcases List.mem_singleton.1 h4 with rfl; exact h3)
      exact ⟨this.1, this.2.1.trans (nV_app hn), this.2.2⟩
    · cases h2
theorem bad_sat {n : Nat} {x : Nat → Int} {q : Ineq} (h : badV q = true) : ¬ Sat n x q := by
  rintro ⟨h1, h2⟩
  have h := of_decide_eq_true h
  have : dotF (cf q) x n = dotF (fun _ => 0) x n := dotF_congr fun j hj => h.1 _ (getDb_mem (by omega))
  rw [this, dotF_zero] at h2
  omega
def Sm : Nat → Proof → Prop
  | 0, _ => False
  | n + 1, p => p.Steps.length ≤ n ∧ (∀ s ∈ p.Steps, OkS s) ∧ p.Form.length ≤ 6 ∧ (∀ b ∈ p.Form, OkB 4 b) ∧ OkB 4 p.Bound ∧ (∀ c ∈ p.Children, Sm n c) ∧ ∀ c ∈ p.Children, c.Children.length ≤ 9223372036854775807
theorem check_tm : ∀ (n : Nat) (p : Proof) (K : Nat) (l : List Ineq), Sm n p → 6 ≤ K → K + 20 * n * n ≤ 536870912 → l.length + (n + 1) * (n + 1) ≤ 1073741824 → p.Children.length ≤ 9223372036854775807 → (∀ q ∈ l, OkI K q) →
    ∃ v, Tm (fun N => cCheck N l p) (· = v) ∧ Tm (fun N => rCheck N l p) (· = v) ∧ (v = true → l ≠ [] → ∀ x : Nat → Int, ¬ ∀ q ∈ l, Sat (nV l) x q) := by
  intro n
  induction n with
  | zero => intro p K l h; exact h.elim
  | succ n ih =>
    intro p K l ⟨hsl, hs, hfl, hf, hbd, hch, hcb⟩ hK6 hK hl hcl hq
    have hnn : 20 * (n + 1) * (n + 1) = 20 * n * n + 40 * n + 20 := by grind
    have hnn2 : (n + 1 + 1) * (n + 1 + 1) = (n + 1) * (n + 1) + 2 * n + 3 := by grind
    have hlb : l.length ≤ 1073741824 := by omega
    by_cases hev : evenV l
    · obtain ⟨N0, ts, hts, hP⟩ := (cSteps_tm (p := p) (l := l) (K := K) (by omega) (by omega) hq hs).get
      have hpn : p.Children.length = 0 ∨ p.Children.length = 2 ∨ (p.Children.length ≠ 0 ∧ p.Children.length ≠ 2) := by omega
      have stepsC := cSteps_tm (p := p) (l := l) (K := K) (by omega) (by omega) hq hs
      have stepsR := rSteps_tm (p := p) (l := l) (K := K) (by omega) (by omega) hq hs
      have cbeg : ∀ {Q : Bool → Prop}, Tm (fun N => (loopM (cCheck_b1 N p) N (l, 0)).bind fun ss => match ss with
          | (Sum.inl e236) =>
            (if ((List.length p.Children : Int) : Int) = 0 then
              (containsIneq N e236 (fun y344 => cContradictory N y344)).bind fun r345 =>
              some r345
            else
              (if ((List.length p.Children : Int) : Int) = 2 then
                (cwidth N e236).bind fun r358 =>
                (((if ((List.length e236 : Int) : Int) > 0 then
                  some (decide (((List.length p.Form : Int) : Int) ≠ r358.1))
                else
                  some false) : Option Bool)).bind fun ss =>
                  match ss with
                  | x370 =>
                    (if x370 = true then
                      some false
                    else
                      (bNeg N p.Bound).bind fun r392 =>
                      (bOf N 1).bind fun r397 =>
                      (bSub N r392 r397).bind fun r402 =>
                      (negated N p.Form r402).bind fun r407 =>
                      (clipIneq N e236).bind fun r505 =>
                      (apnd 56 r505 [(Ineq.mk p.Form p.Bound)]).bind fun x523 =>
                      (idx p.Children 0).bind fun x538 =>
                      (cCheck N x523 x538).bind fun r560 =>
                      (if r560 = true then
                        (apnd 56 r505 [r407]).bind fun x572 =>
                        (idx p.Children 1).bind fun x587 =>
                        (cCheck N x572 x587).bind fun r748 =>
                        some r748
                      else
                        some false))
              else
                some false))
          | (Sum.inr z891) => some z891) Q → Tm (fun N => cCheck N l p) Q := by
        intro Q h
        refine Tm.succ ?_
        show Tm (fun N => cCheck_step N (cCheck N) l p) Q
        unfold cCheck_step
        refine Tm.bind (cwidth_tm (by omega)) ?_
        rintro _ rfl
        refine Tm.neg (by simp [hev]) ?_
        refine Tm.bind (Q := (· = l)) (by unfold cloneIneq; exact Tm.step (apnd_ok (by simp only [List.length_nil]; omega) (by decide)) (Tm.pure rfl)) ?_
        rintro _ rfl
        exact h
      have rbeg : ∀ {Q : Bool → Prop}, Tm (fun N => (loopM (rCheck_b1 N p) N (l, 0)).bind fun ss => match ss with
          | (Sum.inl all222) =>
            (if ((List.length p.Children : Int) : Int) = 0 then
              (loopM (rCheck_b2 N all222) N 0).bind fun ss =>
                match ss with
                | (Sum.inl _) =>
                  some false
                | (Sum.inr z421) => some z421
            else
              (((if ((List.length p.Children : Int) : Int) ≠ 2 then
                some true
              else
                (if ((List.length all222 : Int) : Int) > 0 then
                  (idx all222 0).bind fun x904 =>
                  some (decide (((List.length p.Form : Int) : Int) ≠ (List.length x904.Coefs : Int)))
                else
                  some false)) : Option Bool)).bind fun ss =>
                match ss with
                | x785 =>
                  (if x785 = true then
                    some false
                  else
                    (rNeg N p.Bound).bind fun r1165 =>
                    (rOf N 1).bind fun r1170 =>
                    (rSub N r1165 r1170).bind fun r1175 =>
                    (rflip N (Ineq.mk p.Form p.Bound) r1175).bind fun r1180 =>
                    (apnd 56 ([] : (List Ineq)) all222).bind fun x1274 =>
                    (apnd 56 x1274 [(Ineq.mk p.Form p.Bound)]).bind fun x1350 =>
                    (apnd 56 ([] : (List Ineq)) all222).bind fun x1373 =>
                    (apnd 56 x1373 [r1180]).bind fun x1449 =>
                    (idx p.Children 0).bind fun x1465 =>
                    (rCheck N x1350 x1465).bind fun r1487 =>
                    (if r1487 = true then
                      (idx p.Children 1).bind fun x1496 =>
                      (rCheck N x1449 x1496).bind fun r1518 =>
                      some r1518
                    else
                      some false)))
          | (Sum.inr z1526) => some z1526) Q → Tm (fun N => rCheck N l p) Q := by
        intro Q h
        refine Tm.succ ?_
        show Tm (fun N => rCheck_step N (rCheck N) l p) Q
        unfold rCheck_step
        refine Tm.bind (rEven_tm (by omega)) ?_
        rintro _ rfl
        refine Tm.neg (by simp [hev]) ?_
        refine Tm.step (apnd_ok (by simp only [List.length_nil]; omega) (by decide)) ?_
        exact h
      rcases hP with ⟨e, rfl, hse, heo, hel⟩ | ⟨rfl, hsn⟩
      · 
        have cst : Tm (fun N => loopM (cCheck_b1 N p) N (l, 0)) (· = .inl e) := stepsC.mono (by
          rintro t (⟨e', rfl, h1, _⟩ | ⟨rfl, h1⟩)
          · have := h1.uniq hse; cases this; rfl
          · have := h1.uniq hse; cases this)
        have rst : Tm (fun N => loopM (rCheck_b1 N p) N (l, 0)) (· = .inl e) := stepsR.mono (by
          rintro t (⟨e', rfl, h1⟩ | ⟨rfl, h1⟩)
          · have := h1.uniq hse; cases this; rfl
          · have := h1.uniq hse; cases this)
        have hkb : K + 20 * p.Steps.length ≤ 536870912 := by omega
        have heb : e.length ≤ 1073741824 := by omega
        rcases hpn with h0 | h2 | ⟨h0, h2⟩
        · 
          refine ⟨e.any badV, cbeg (Tm.bind cst ?_), rbeg (Tm.bind rst ?_), fun hv hne x hx => ?_⟩
          · rintro _ rfl
            refine Tm.pos (by omega) (Tm.bind (containsIneq_tm (f := fun N y => cContradictory N y) (p := badV) (by omega) (fun q hq' => cContradictory_tm (K := K + 20 * p.Steps.length) (by omega) (heo q hq'))) (fun r hr => Tm.pure hr))
          · rintro _ rfl
            refine Tm.pos (by omega) (Tm.bind (Tm.each (body := fun N => rCheck_b2 N e) e (fun q => badV q = false) (Q := fun t => (t = .inr true ∧ e.any badV = true) ∨ (t = .inl () ∧ e.any badV = false)) (by omega) ?_ ?_) ?_)
            · intro m hm _
              dsimp only [rCheck_b2]
              refine Tm.pos (by omega) (Tm.step (idx_ok hm) (Tm.bind (rBad_tm (K := K + 20 * p.Steps.length) (by omega) (heo _ (List.getElem_mem hm))) ?_))
              rintro _ rfl
              refine Tm.ite (fun h => Tm.pure (.inr ⟨_, rfl, .inl ⟨rfl, List.any_eq_true.2 ⟨_, List.getElem_mem hm, h⟩⟩⟩)) (fun h => Tm.pure (.inl ⟨rfl, by simpa using h⟩))
            · intro hall
              dsimp only [rCheck_b2]
              refine Tm.neg (by omega) (Tm.pure ⟨_, rfl, .inr ⟨rfl, ?_⟩⟩)
              rw [Bool.eq_false_iff]
              intro h
              obtain ⟨q, hq', h1⟩ := List.any_eq_true.1 h
              rw [hall q hq'] at h1; cases h1
            · rintro _ (⟨rfl, h⟩ | ⟨rfl, h⟩) <;> exact Tm.pure (by simp [h])
          · obtain ⟨q, hq', h1⟩ := List.any_eq_true.1 hv
            exact bad_sat h1 ((steps_sat p.Steps l e hne hse hx).2.2 q hq')
        · 
          have hcl : 0 < p.Children.length := by omega
          by_cases hw : 0 < e.length ∧ p.Form.length ≠ nV e
          · refine ⟨false, cbeg (Tm.bind cst ?_), rbeg (Tm.bind rst ?_), fun hv => by cases hv⟩
            · rintro _ rfl
              refine Tm.neg (by omega) (Tm.pos (by omega) (Tm.bind (cwidth_tm (by omega)) ?_))
              rintro _ rfl
              refine Tm.bind (Q := (· = true)) (Tm.pos (by omega) (Tm.pure (decide_eq_true (by have := hw.2; omega)))) ?_
              rintro _ rfl
              exact Tm.pos rfl (Tm.pure rfl)
            · rintro _ rfl
              refine Tm.neg (by omega) (Tm.bind (Q := (· = true)) (Tm.neg (by omega) (Tm.pos (by omega) (Tm.step (idx_gq (n := 0) rfl hw.1) (Tm.pure (decide_eq_true (by have := hw.2; unfold nV at this; omega)))))) ?_)
              rintro _ rfl
              exact Tm.pos rfl (Tm.pure rfl)
          · have hK' : K + 20 * (n + 1) + 20 * n * n ≤ 536870912 := by omega
            have he' : ∀ q ∈ e, OkI (K + 20 * (n + 1)) q := fun q hq' => (heo q hq').mono (by omega)
            have hb1 : Tm (fun N => bNeg N p.Bound) (fun r => Is r (- bv p.Bound) ∧ r.Digits.length ≤ p.Bound.Digits.length) := bNeg_tm hbd.1 (by have := hbd.2; omega)
            have hlow : OkI (K + 20 * (n + 1)) (Ineq.mk p.Form p.Bound) := ⟨by dsimp only; omega, fun b hb => (hf b hb).mono (by omega), hbd.mono (by omega)⟩
            have highC : Tm (fun N => (bNeg N p.Bound).bind fun a => (bOf N 1).bind fun b => (bSub N a b).bind fun c => negated N p.Form c) (fun r => IsF p.Form.length r.Coefs (fun j => - bv (p.Form.getD j big0)) ∧ Is r.Bound (- bv p.Bound - 1) ∧ OkI (K + 20 * (n + 1)) r) := by
              refine Tm.bind hb1 ?_
              rintro a ⟨ha, hal⟩
              refine Tm.bind (bOf_tm (n := 1) (by decide) (by decide)) ?_
              rintro b ⟨hb, hbl⟩
              have hal' := hbd.2
              refine Tm.bind (bSub_tm ha.dg.inB hb.dg.inB (by omega) (by omega)) ?_
              rintro c ⟨hc, hcl⟩
              rw [ha.bv, hb.bv] at hc
              refine (negated_gen (K := K + 20 * (n + 1)) (by omega) (by omega) (fun x hx => (hf x hx).mono (by omega)) (hc.ok (by omega))).mono ?_
              rintro r ⟨h1, h3, h4⟩
              rw [hc.bv] at h3
              exact ⟨h1, h3, h4⟩
            obtain ⟨Nh, high, _, hh1, hh2, hh3⟩ := highC.get
            have hhu : ∀ r : Ineq, IsF p.Form.length r.Coefs (fun j => - bv (p.Form.getD j big0)) → Is r.Bound (- bv p.Bound - 1) → r = high := by
              rintro ⟨c, d⟩ g1 g2
              obtain ⟨c', d'⟩ := high
              have e1 : c = c' := g1.uniq hh1
              have e2 : d = d' := g2.uniq hh2
              rw [e1, e2]
            have hA0 : p.Children[0]'(by omega) ∈ p.Children := List.getElem_mem _
            have hA1 : p.Children[1]'(by omega) ∈ p.Children := List.getElem_mem _
            have hlen : ∀ q : Ineq, (e ++ [q]).length + (n + 1) * (n + 1) ≤ 1073741824 := fun q => by simp; omega
            have hSm0 := hch _ hA0
            have hSm1 := hch _ hA1
            have hcc := hcb
            obtain ⟨vA, cA, rA, sA⟩ := ih _ (K + 20 * (n + 1)) (e ++ [Ineq.mk p.Form p.Bound]) hSm0 (by omega) hK' (hlen _) (hcc _ hA0) (snocq he' hlow)
            obtain ⟨vB, cB, rB, sB⟩ := ih _ (K + 20 * (n + 1)) (e ++ [high]) hSm1 (by omega) hK' (hlen _) (hcc _ hA1) (snocq he' hh3)
            have hwid : Tm (fun N => cwidth N e) (fun r => r = ((nV e : Int), decide (evenV e))) := cwidth_tm (by omega)
            refine ⟨vA && vB, cbeg (Tm.bind cst ?_), rbeg (Tm.bind rst ?_), fun hv hne x hx => ?_⟩
            · rintro _ rfl
              refine Tm.neg (by omega) (Tm.pos (by omega) (Tm.bind hwid ?_))
              rintro _ rfl
              refine Tm.bind (Q := (· = false)) (Tm.ite (fun g => Tm.pure (decide_eq_false (by omega))) (fun g => Tm.pure rfl)) ?_
              rintro _ rfl
              refine Tm.neg (by simp) ?_
              refine Tm.bind hb1 ?_
              rintro a ⟨ha, hal⟩
              refine Tm.bind (bOf_tm (n := 1) (by decide) (by decide)) ?_
              rintro b ⟨hb, hbl⟩
              have hal' := hbd.2
              refine Tm.bind (bSub_tm ha.dg.inB hb.dg.inB (by omega) (by omega)) ?_
              rintro c ⟨hc, hcl⟩
              rw [ha.bv, hb.bv] at hc
              refine Tm.bind (negated_gen (K := K + 20 * (n + 1)) (by omega) (by omega) (fun x hx => (hf x hx).mono (by omega)) (hc.ok (by omega))) ?_
              rintro r ⟨h1, h3, h4⟩
              rw [hc.bv] at h3
              obtain rfl := hhu r h1 h3
              refine Tm.bind (Q := (· = e)) (Tm.pure rfl) ?_
              rintro _ rfl
              refine Tm.step (apnd_ok (by simp only [List.length_cons, List.length_nil]; omega) (by decide)) (Tm.step (idx_i (n := 0) rfl (by omega)) (Tm.bind cA ?_))
              intro t ht; rw [ht]
              refine Tm.ite (fun g => ?_) (fun g => Tm.pure ?_)
              · refine Tm.step (apnd_ok (by simp only [List.length_cons, List.length_nil]; omega) (by decide)) (Tm.step (idx_i (n := 1) rfl (by omega)) (Tm.bind cB ?_))
                rintro _ rfl
                exact Tm.pure (by simp [g])
              · have : vA = false := by simpa using g
                simp [this]
            · rintro _ rfl
              refine Tm.neg (by omega) (Tm.bind (Q := (· = false)) (Tm.neg (by omega) (Tm.ite (fun g => Tm.step (idx_gq (n := 0) rfl (by omega)) (Tm.pure (decide_eq_false (by unfold nV at hw; omega)))) (fun g => Tm.pure rfl))) ?_)
              rintro _ rfl
              refine Tm.neg (by simp) ?_
              have hal' := hbd.2
              refine Tm.bind (rNeg_tm hbd.1 (by omega)) ?_
              rintro a ⟨ha, hal⟩
              refine Tm.bind (rOf_tm (n := 1) (by decide) (by decide)) ?_
              rintro b ⟨hb, hbl⟩
              refine Tm.bind (rSub_tm ha.dg.inB hb.dg.inB (by omega) (by omega)) ?_
              rintro c ⟨hc, hcl⟩
              rw [ha.bv, hb.bv] at hc
              refine Tm.bind (rflip_gen (K := K + 20 * (n + 1)) (q := Ineq.mk p.Form p.Bound) (by omega) (by dsimp only; omega) (fun x hx => (hf x hx).mono (by omega)) (hc.ok (by omega))) ?_
              rintro r ⟨h1, h3⟩
              rw [hc.bv] at h3
              obtain rfl := hhu r h1 h3
              refine Tm.step (apnd_ok (by simp only [List.length_nil]; omega) (by decide)) (Tm.step (apnd_ok (by simp only [List.nil_append, List.length_cons, List.length_nil]; omega) (by decide)) (Tm.step (apnd_ok (by simp only [List.length_nil]; omega) (by decide)) (Tm.step (apnd_ok (by simp only [List.nil_append, List.length_cons, List.length_nil]; omega) (by decide)) ?_)))
              simp only [List.nil_append]
              refine Tm.step (idx_i (n := 0) rfl (by omega)) (Tm.bind rA ?_)
              intro t ht; rw [ht]
              refine Tm.ite (fun g => ?_) (fun g => Tm.pure ?_)
              · refine Tm.step (idx_i (n := 1) rfl (by omega)) (Tm.bind rB ?_)
                rintro _ rfl
                exact Tm.pure (by simp [g])
              · have : vA = false := by simpa using g
                simp [this]
            · rw [Bool.and_eq_true] at hv
              obtain ⟨g1, g2, g3⟩ := steps_sat p.Steps l e hne hse hx
              have hel0 : 0 < e.length := List.length_pos_iff.2 g1
              have hfn : p.Form.length = nV e := Classical.byContradiction fun h => hw ⟨hel0, h⟩
              have both : ∀ q : Ineq, Sat (nV e) x q → ∀ y ∈ e ++ [q], Sat (nV (e ++ [q])) x y := fun q hq' y hy => by
                rw [nV_app g1]
                rcases List.mem_append.1 hy with h4 | h4
                · exact g3 y h4
                · rcases List.mem_singleton.1 h4 with rfl; exact hq'
              rcases Int.lt_or_le (bv p.Bound) (dotF (cf (Ineq.mk p.Form p.Bound)) x (nV e)) with h4 | h4
              · refine sB hv.2 (by simp) x (both high ⟨by rw [hh1.1]; exact hfn, ?_⟩)
                have e1 : dotF (cf high) x (nV e) = dotF (fun j => (-1) * cf (Ineq.mk p.Form p.Bound) j) x (nV e) := dotF_congr fun j hj => by
                  have := (hh1.2 j (by omega)).bv
                  show bv (high.Coefs.getD j big0) = -1 * bv (p.Form.getD j big0)
                  rw [this]
                  show -bv (p.Form.getD j big0) = -1 * bv (p.Form.getD j big0)
                  omega
                rw [e1, dotF_mul, hh2.bv]
                omega
              · exact sA hv.1 (by simp) x (both _ ⟨hfn, h4⟩)
        · refine ⟨false, cbeg (Tm.bind cst ?_), rbeg (Tm.bind rst ?_), fun hv => by cases hv⟩
          · rintro _ rfl
            exact Tm.neg (by omega) (Tm.neg (by omega) (Tm.pure rfl))
          · rintro _ rfl
            refine Tm.neg (by omega) (Tm.bind (Q := (· = true)) (Tm.pos (by omega) (Tm.pure rfl)) ?_)
            rintro _ rfl
            exact Tm.pos rfl (Tm.pure rfl)
      · have cst : Tm (fun N => loopM (cCheck_b1 N p) N (l, 0)) (· = .inr false) := stepsC.mono (by
          rintro t (⟨e', rfl, h1, _⟩ | ⟨rfl, h1⟩)
          · have := h1.uniq hsn; cases this
          · rfl)
        have rst : Tm (fun N => loopM (rCheck_b1 N p) N (l, 0)) (· = .inr false) := stepsR.mono (by
          rintro t (⟨e', rfl, h1⟩ | ⟨rfl, h1⟩)
          · have := h1.uniq hsn; cases this
          · rfl)
        refine ⟨false, cbeg (Tm.bind cst ?_), rbeg (Tm.bind rst ?_), fun hv => by cases hv⟩
        · rintro _ rfl; exact Tm.pure rfl
        · rintro _ rfl; exact Tm.pure rfl
    · refine ⟨false, Tm.succ ?_, Tm.succ ?_, fun h => by cases h⟩
      · show Tm (fun N => cCheck_step N (cCheck N) l p) _
        unfold cCheck_step
        refine Tm.bind (cwidth_tm (by omega)) ?_
        rintro _ rfl
        exact Tm.pos (by simp [hev]) (Tm.pure rfl)
      · show Tm (fun N => rCheck_step N (rCheck N) l p) _
        unfold rCheck_step
        refine Tm.bind (rEven_tm (by omega)) ?_
        rintro _ rfl
        exact Tm.pos (by simp [hev]) (Tm.pure rfl)
end Go.D
