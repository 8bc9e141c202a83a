/-
  The laws of chapter 18 whose arguments' bulk is bounded. Plain theorems.
-/
import Derived.Test.YtakkacdhlocckaaM15
namespace Go.D
open Go Go.X
mutual
def bkP : Proof → Nat
  | ⟨steps, _, _, children⟩ => steps.length + bkPs children + 1
def bkPs : List Proof → Nat
  | [] => 0
  | c :: r => bkP c + bkPs r
end
theorem bkP_eq (p : Proof) : bkP p = p.Steps.length + bkPs p.Children + 1 := by cases p; simp [bkP]
theorem bkPs_mem : ∀ {l : List Proof} {c : Proof}, c ∈ l → bkP c ≤ bkPs l
  | a :: r, c, h => by
    simp only [bkPs]
    rcases List.mem_cons.1 h with rfl | h
    · omega
    · have := bkPs_mem h; omega
inductive InPr : Proof → Prop
  | mk {p : Proof} (h1 : ∀ s ∈ p.Steps, InS s) (h2 : p.Form.length ≤ 9223372036854775807) (h3 : ∀ b ∈ p.Form, In32 b) (h4 : In32 p.Bound) (h5 : p.Children.length ≤ 9223372036854775807) (h6 : ∀ c ∈ p.Children, InPr c) : InPr p
theorem Sm.mono : ∀ {n m : Nat} {p : Proof}, Sm n p → n ≤ m → Sm m p
  | 0, _, _, h, _ => h.elim
  | n + 1, 0, _, _, h => by omega
  | n + 1, m + 1, p, ⟨h1, h2, h3, h4, h5, h6, h7⟩, h => ⟨by omega, h2, h3, h4, h5, fun c hc => (h6 c hc).mono (by omega), h7⟩
theorem rweight_tm : ∀ (n : Nat) (p : Proof), bkP p ≤ n → n ≤ 1048576 → InPr p → Tm (fun N => rweight N p) (fun r => 1 ≤ r ∧ r ≤ 101 + 101 * (bkP p : Int) ∧ (r ≤ 100 → Sm r.toNat p)) := by
  intro n
  induction n with
  | zero => intro p h; rw [bkP_eq] at h; omega
  | succ n ih =>
    intro p hb hn hp
    have hbe := bkP_eq p
    cases hp with
    | mk h1 h2 h3 h4 h5 h6 =>
    refine Tm.succ ?_
    show Tm (fun N => rweight_step N (rweight N) p) _
    unfold rweight_step
    have hw : iw (1 + (p.Steps.length : Int)) = 1 + (p.Steps.length : Int) := by rw [iw_eq] <;> omega
    rw [hw]
    refine Tm.bind (Q := fun r => r = false → p.Form.length ≤ 6 ∧ (∀ b ∈ p.Form, OkB 4 b) ∧ OkB 4 p.Bound) (Tm.bind (rbigs_tm h2) ?_) ?_
    · intro r hr
      refine Tm.ite (fun h => Tm.pure (fun h => by cases h)) (fun h => Tm.pure (fun h' => ?_))
      have := hr (by simpa using h)
      have h7 := of_decide_eq_false h'
      exact ⟨this.1, fun b hb => ⟨h3 b hb, this.2 b hb⟩, h4, by omega⟩
    intro r hr
    refine Tm.ite (fun h => Tm.pure ⟨by decide, by omega, fun h' => absurd h' (by decide)⟩) (fun h => ?_)
    obtain ⟨f1, f2, f3⟩ := hr (by simpa using h)
    refine Tm.bind (Q := fun t : Sum Unit Int => t = .inr 101 ∨ (t = .inl () ∧ (p.Steps.length ≤ 99 → ∀ s ∈ p.Steps, OkS s))) ?_ ?_
    · by_cases hl : p.Steps.length ≤ 99
      · refine Tm.each (body := fun N => rweight_b1 N p) p.Steps OkS (by omega) ?_ ?_
        · intro k hk _
          dsimp only [rweight_b1]
          rw [hw]
          refine Tm.bind (Q := (· = true)) (Tm.pos (by omega) (Tm.pure (decide_eq_true (by omega)))) ?_
          rintro _ rfl
          refine Tm.pos rfl (Tm.step (idx_ok hk) (Tm.bind (rSmallStep_tm (h1 _ (List.getElem_mem hk))) ?_))
          intro t ht
          refine Tm.ite (fun h => Tm.pure (.inr ⟨_, rfl, .inl rfl⟩)) (fun h => Tm.pure (.inl ⟨rfl, ht (by simpa using h)⟩))
        · intro hall
          dsimp only [rweight_b1]
          refine Tm.bind (Q := (· = false)) (Tm.neg (by omega) (Tm.pure rfl)) ?_
          rintro _ rfl
          exact Tm.neg (by simp) (Tm.pure ⟨_, rfl, .inr ⟨rfl, fun _ => hall⟩⟩)
      · refine Tm.loop (fun _ => True) (fun _ => 0) trivial ?_
        intro i _
        dsimp only [rweight_b1]
        rw [hw]
        refine Tm.bind (Q := (· = false)) (Tm.ite (fun _ => Tm.pure (decide_eq_false (by omega))) (fun _ => Tm.pure rfl)) ?_
        rintro _ rfl
        exact Tm.neg (by simp) (Tm.pure (.inr ⟨rfl, fun h => absurd h hl⟩))
    rintro _ (rfl | ⟨rfl, hsteps⟩)
    · exact Tm.pure ⟨by decide, by omega, fun h' => absurd h' (by decide)⟩
    refine Tm.bind (Q := fun r => 1 ≤ r ∧ r ≤ 101 + 101 * (bkP p : Int) ∧ (r ≤ 100 → Sm r.toNat p))
      (Tm.loop (fun t : Int × Int => ∃ k : Nat, t.2 = k ∧ k ≤ p.Children.length ∧ 1 + (p.Steps.length : Int) ≤ t.1 ∧ t.1 ≤ 101 + 101 * (bkP p : Int) ∧ ∀ j, (hj : j < p.Children.length) → j < k → ∃ r : Int, 1 ≤ r ∧ r + 1 ≤ t.1 ∧ (r ≤ 100 → Sm r.toNat p.Children[j])) (fun t => p.Children.length - t.2.toNat)
        ⟨0, rfl, Nat.zero_le _, Int.le_refl _, by dsimp only; omega, fun j _ h => absurd h (by omega)⟩ ?_) (fun r h => Tm.pure h)
    rintro ⟨m, kk⟩ ⟨k, rfl, hk, hm0, hm1, hc⟩
    dsimp only [rweight_b2] at *
    refine Tm.bind (Q := (· = decide (k < p.Children.length ∧ m ≤ 100))) (Tm.ite (fun h => Tm.pure ?_) (fun h => Tm.pure ?_)) ?_
    · have : k < p.Children.length := by omega
      simp [this]
    · have : ¬ k < p.Children.length := by omega
      simp [this]
    rintro _ rfl
    refine Tm.ite (fun h => ?_) (fun h => Tm.pure ?_)
    · obtain ⟨g1, g2⟩ := of_decide_eq_true h
      refine Tm.step (idx_ok g1) ?_
      have hmem := List.getElem_mem g1
      have hbk := bkPs_mem hmem
      refine Tm.bind (ih _ (by omega) (by omega) (h6 _ hmem)) ?_
      rintro r ⟨r1, r2, r3⟩
      have e : iw (m + r) = m + r := by rw [iw_eq] <;> omega
      refine Tm.pure ⟨⟨k + 1, by show iw ((k : Int) + 1) = _; rw [iw_eq] <;> omega, by omega, by dsimp only; omega, by dsimp only; omega, fun j hj hjk => ?_⟩, ?_⟩
      · dsimp only
        rw [e]
        by_cases hjk' : j < k
        · obtain ⟨r', q1, q2, q3⟩ := hc j hj hjk'
          exact ⟨r', q1, by omega, q3⟩
        · obtain rfl : j = k := by omega
          exact ⟨r, r1, by omega, r3⟩
      · show p.Children.length - (iw ((k : Int) + 1)).toNat < p.Children.length - ((k : Int)).toNat
        rw [iw_eq] <;> omega
    · have h : ¬ (k < p.Children.length ∧ m ≤ 100) := by simpa using h
      refine ⟨by omega, hm1, fun hm => ?_⟩
      have hkl : k = p.Children.length := by omega
      obtain ⟨q, hq⟩ : ∃ q, m.toNat = q + 1 := ⟨m.toNat - 1, by omega⟩
      rw [hq]
      refine ⟨by omega, hsteps (by omega), f1, f2, f3, fun c hcm => ?_, fun c hcm => ?_⟩
      · obtain ⟨j, hj, rfl⟩ := List.mem_iff_getElem.1 hcm
        obtain ⟨r', q1, q2, q3⟩ := hc j hj (by omega)
        exact (q3 (by omega)).mono (by omega)
      · cases h6 c hcm with
        | mk _ _ _ _ g5 _ => exact g5
theorem rSmallProof_tm {p : Proof} (hb : bkP p ≤ 1048576) (hp : InPr p) : Tm (fun N => rSmallProof N p) (fun t => t = true → Sm 40 p) := by
  unfold rSmallProof
  refine Tm.bind (rweight_tm _ p (Nat.le_refl _) hb hp) ?_
  rintro r ⟨h1, h2, h3⟩
  refine Tm.pure (fun h => ?_)
  have := of_decide_eq_true h
  exact (h3 (by omega)).mono (by omega)
def xv (x : List Big) (j : Nat) : Int := bv (x.getD j big0)
theorem dot_dotF {a b : List Big} : ∀ n, dot a b n = dotF (fun j => bv (a.getD j big0)) (xv b) n
  | 0 => rfl
  | n + 1 => by simp only [dot, dotF, dot_dotF n]; rfl
theorem holds_sat {q : Ineq} {x : List Big} : holdsV q x = true ↔ Sat x.length (xv x) q := by
  unfold holdsV Sat
  rw [Bool.and_eq_true, decide_eq_true_eq, decide_eq_true_eq, dot_dotF]; rfl
theorem rAll_tm {K : Nat} {l : List Ineq} {x : List Big} (hK : K ≤ 1073741824) (hl : l.length ≤ 9223372036854775807) (hq : ∀ q ∈ l, OkI K q) (hx : ∀ b ∈ x, OkB K b) (hxl : x.length ≤ 9223372036854775807) : Tm (fun N => rAll N l x) (fun r => r = true → ∀ q ∈ l, Sat x.length (xv x) q) := by
  unfold rAll
  refine Tm.bind (Tm.each (body := fun N => rAll_b1 N l x) l (fun q => Sat x.length (xv x) q) (Q := fun t => t = .inr false ∨ (t = .inl () ∧ ∀ q ∈ l, Sat x.length (xv x) q)) hl ?_ ?_) ?_
  · intro n hn _
    dsimp only [rAll_b1]
    refine Tm.pos (by omega) (Tm.step (idx_ok hn) (Tm.bind (rHolds_tm hK (hq _ (List.getElem_mem hn)) hx hxl) ?_))
    rintro _ rfl
    refine Tm.ite (fun h => Tm.pure (.inr ⟨_, rfl, .inl rfl⟩)) (fun h => Tm.pure (.inl ⟨rfl, holds_sat.1 (by simpa using h)⟩))
  · intro hall
    dsimp only [rAll_b1]
    exact Tm.neg (by omega) (Tm.pure ⟨_, rfl, .inr ⟨rfl, hall⟩⟩)
  · rintro _ (rfl | ⟨rfl, h⟩)
    · exact Tm.pure (fun h => by cases h)
    · exact Tm.pure (fun _ => h)
theorem nV_of {l : List Ineq} {x : List Big} (hn : l ≠ []) (h : ∀ q ∈ l, Sat x.length (xv x) q) : nV l = x.length := by
  cases l with
  | nil => exact absurd rfl hn
  | cons a r => exact (h a List.mem_cons_self).1
theorem small3_tm {l : List Ineq} {x : List Big} (hl : (l.length + 1) * 56 ≤ 140737488355328) (hq : ∀ q ∈ l, InI q) (hx : ∀ b ∈ x, In32 b) (hxl : x.length ≤ 9223372036854775807) :
    Tm (fun N => rSmall N ([(Ineq.mk x (Big.mk false []))] ++ l)) (fun r => r = true → (l.length ≤ 12 ∧ ∀ q ∈ l, OkI 6 q) ∧ ∀ b ∈ x, OkB 6 b) := by
  refine (rSmall_tm (by simp; omega) (fun q h => ?_)).mono ?_
  · rcases List.mem_append.1 h with h | h
    · rcases List.mem_singleton.1 h with rfl; exact hxl
    · exact (hq q h).1
  · intro r hr h
    obtain ⟨h1, h2⟩ := hr h
    have hx1 := h2 _ (List.mem_append_left _ (List.mem_singleton.2 rfl))
    refine ⟨⟨by simp at h1; omega, fun q hq' => (h2 q (List.mem_append_right _ hq')).ok (hq q hq')⟩, fun b hb => ⟨hx b hb, ?_⟩⟩
    have := hx1.2.1 b hb
    omega
theorem lawSound_tm {l : List Ineq} {p : Proof} {x : List Big} (hl : (l.length + 1) * 56 ≤ 140737488355328) (hq : ∀ q ∈ l, InI q) (hb : bkP p ≤ 1048576) (hp : InPr p) (hx : ∀ b ∈ x, In32 b) (hxl : x.length ≤ 9223372036854775807) : Tm (fun N => lawSound N l p x) (fun r => r = true) := by
  unfold lawSound
  refine Tm.bind (Q := fun r => r = false → ((l.length ≤ 12 ∧ ∀ q ∈ l, OkI 6 q) ∧ ∀ b ∈ x, OkB 6 b) ∧ Sm 40 p) (Tm.bind awake_tm ?_) ?_
  · rintro _ rfl
    refine Tm.neg (by simp) (Tm.step (apnd_ok (by simp only [List.length_cons, List.length_nil]; omega) (by decide)) (Tm.bind (small3_tm hl hq hx hxl) ?_))
    intro r hr
    refine Tm.ite (fun h => Tm.pure (fun h => by cases h)) (fun h => ?_)
    have h1 := hr (by simpa using h)
    refine Tm.bind (rSmallProof_tm hb hp) ?_
    intro t ht
    exact Tm.pure (fun h => ⟨h1, ht (by simpa using h)⟩)
  · intro r hr
    refine Tm.ite (fun h => Tm.bind awake_tm (fun _ h => Tm.pure h)) (fun h => ?_)
    obtain ⟨⟨⟨h1, h2⟩, h4⟩, h3⟩ := hr (by simpa using h)
    have hcl : p.Children.length ≤ 9223372036854775807 := by cases hp; assumption
    obtain ⟨v, hc, -, hv⟩ := check_tm 40 p 6 l h3 (by decide) (by decide) (by omega) hcl h2
    refine Tm.bind hc ?_
    intro a ha
    rw [ha]
    refine Tm.ite (fun g => Tm.pure rfl) (fun g => Tm.ite (fun g1 => Tm.pure rfl) (fun g1 => ?_))
    have hvt : v = true := by simpa using g
    have hn : l ≠ [] := fun e => g1 (by rw [e]; rfl)
    refine Tm.bind (rAll_tm (K := 6) (by decide) (by omega) h2 h4 hxl) ?_
    intro r hall
    refine Tm.pure ?_
    cases r with
    | false => rfl
    | true =>
      exfalso
      have hsat := hall rfl
      refine hv hvt hn (xv x) (fun y hy => ?_)
      rw [nV_of hn hsat]; exact hsat y hy
end Go.D
