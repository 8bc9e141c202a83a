/-
  Loops by the slots that matter; a function's results. Plain theorems over any program.
-/
import Derived.Test.YtpfbdhfpojbmlaaDoorX4
set_option linter.unusedSimpArgs false
set_option linter.unusedVariables false
namespace Go.X
open Go Go.RowKit

def memN (i : Nat) : List Nat → Bool
  | [] => false
  | x :: r => Nat.beq i x || memN i r
def mix (ws : List Nat) (e' e : Env) : Env := fun i => bif memN i ws then e' i else e i
def upds : List (Nat × Value) → Env → Env
  | [], e => e
  | (d, v) :: r, e => upd (upds r e) d v
def slotsOk : List (Nat × Value) → Env → Prop
  | [], _ => True
  | (d, v) :: r, e => e d = v ∧ slotsOk r e
def agreeOff (ws : List Nat) (e' e : Env) : Prop := ∀ i, memN i ws = false → e' i = e i
def subN : List Nat → List Nat → Bool
  | [], _ => true
  | x :: r, ws => memN x ws && subN r ws

theorem agree_refl {ws : List Nat} {e : Env} : agreeOff ws e e := fun _ _ => rfl
theorem agree_mix {ws : List Nat} {e' e : Env} : agreeOff ws (mix ws e' e) e := fun i hi => by simp [mix, hi]
theorem agree_upd {ws : List Nat} {E e : Env} {d : Nat} {v : Value} (hd : memN d ws = true) (h : agreeOff ws E e) : agreeOff ws (upd E d v) e := by
  intro i hi
  rw [upd_other]
  · exact h i hi
  · rintro rfl; rw [hd] at hi; cases hi
theorem memN_sub {a ws : List Nat} (h : subN a ws = true) {i : Nat} (hi : memN i ws = false) : memN i a = false := by
  induction a with
  | nil => rfl
  | cons x r ih =>
    simp only [subN, Bool.and_eq_true] at h
    simp only [memN, Bool.or_eq_false_iff]
    refine ⟨?_, ih h.2⟩
    cases hx : Nat.beq i x
    · rfl
    · have := Nat.eq_of_beq_eq_true hx
      subst this; rw [h.1] at hi; cases hi
theorem agree_mix2 {ws ws2 : List Nat} {e' E e : Env} (hs : subN ws2 ws = true) (h : agreeOff ws E e) : agreeOff ws (mix ws2 e' E) e := fun i hi => by
  simp only [mix, memN_sub hs hi, cond_false]; exact h i hi
theorem agree_upds {ws : List Nat} {E e : Env} : ∀ {L : List (Nat × Value)}, subN (L.map (·.1)) ws = true → agreeOff ws E e → agreeOff ws (upds L E) e
  | [], _, h => h
  | (d, v) :: r, hs, h => by
    simp only [List.map_cons, subN, Bool.and_eq_true] at hs
    exact agree_upd hs.1 (agree_upds hs.2 h)

theorem upds_of_slotsOk : ∀ {L : List (Nat × Value)} {e : Env}, slotsOk L e → upds L e = e
  | [], _, _ => rfl
  | (d, v) :: r, e, h => by
    simp only [upds, upds_of_slotsOk h.2]
    funext i
    by_cases hi : i = d
    · subst hi; rw [upd_same]; exact h.1.symm
    · rw [upd_other _ _ hi]
theorem mix_of_agree {ws : List Nat} {e' e : Env} (h : agreeOff ws e' e) : mix ws e' e = e' := by
  funext i
  unfold mix
  cases hm : memN i ws
  · exact (h i hm).symm
  · rfl

section
variable {P : Program} {n : Nat} {k : List It} {Q : Env → World → Prop} {e : Env} {w : World}
theorem Swp.mono_back {c : Code} {J J' : Env → World → Prop} (hJ : ∀ e w, J e w → J' e w) (h : Swp P n (.code c :: .back J :: k) Q e w) : Swp P n (.code c :: .back J' :: k) Q e w := by
  intro a h1 h2 h3
  refine wp_mono (h a h1 h2 h3) ?_
  rintro x a' w' ⟨g1, g2, g3⟩
  refine ⟨g1, g2, ?_⟩
  cases x <;> first | exact hJ _ _ g3 | exact g3

/-- A loop with a measure that no slot bears. -/
theorem wp_loop_ghost {c : Code} {σ : Type} (I : σ → Act → World → Prop) (μ : σ → Nat) {Q : Exit → Act → World → Prop} {s0 : σ} {a : Act} {w : World} (h₀ : I s0 a w)
    (round : ∀ s a w, I s a w → c.wp P (Exit.then (fun a' w' => ∃ s', I s' a' w' ∧ μ s' < μ s) Q) a w) : (Code.loop c).wp P Q a w := by
  intro b k cs
  have key : ∀ n s a w, μ s = n → I s a w → ∃ e a' w', Q e a' w' ∧ Arrives P (lone (b.at a (.code c :: .inLoop c :: k)) cs w) b k cs e a' w' := by
    intro n
    induction n using Nat.strongRecOn with
    | _ n ih =>
      intro s a w hn hI
      obtain ⟨e, a₁, w₁, hq, harr⟩ := round s a w hI b (.inLoop c :: k) cs
      cases e with
      | normal =>
        obtain ⟨s', hI₁, hlt⟩ := hq
        obtain ⟨e₂, a₂, w₂, hq₂, harr₂⟩ := ih (μ s') (hn ▸ hlt) s' a₁ w₁ rfl hI₁
        exact ⟨e₂, a₂, w₂, hq₂, .of_steps (Steps.trans harr (.one step_inLoop)) harr₂⟩
      | exit id => exact ⟨_, a₁, w₁, hq, .pass (x := .inLoop c) rfl (fun _ _ => .inl (by simp)) harr⟩
      | goto l => exact ⟨_, a₁, w₁, hq, .pass (x := .inLoop c) rfl (fun _ _ => .inl (by simp)) harr⟩
      | ret => exact ⟨_, a₁, w₁, hq, .pass (x := .inLoop c) rfl (fun _ _ => .inl (by simp)) harr⟩
      | panic ch => exact ⟨_, a₁, w₁, hq, .pass (x := .inLoop c) rfl (fun _ _ => .inl (by simp)) harr⟩
      | outgrown => exact ⟨_, a₁, w₁, hq, .pass (x := .inLoop c) rfl (fun _ _ => .inl (by simp)) harr⟩
  obtain ⟨e, a', w', hq, harr⟩ := key _ s0 a w rfl h₀
  exact ⟨e, a', w', hq, .of_steps (.one step_loop) harr⟩

/-- A loop whose slots 'L s' matter; the slots 'ws' may turn, the others stay. -/
theorem Swp.loopS {c : Code} {σ : Type} (ws : List Nat) (L : σ → List (Nat × Value)) (Φ : σ → World → Prop) (μ : σ → Nat) (s0 : σ) (h0 : Φ s0 w) (hL0 : slotsOk (L s0) e)
    (round : ∀ s e' w', Φ s w' → Swp P n (.code c :: .back (fun e'' w'' => ∃ s', Φ s' w'' ∧ μ s' < μ s ∧ slotsOk (L s') e'' ∧ agreeOff ws e'' e) :: k) Q (upds (L s) (mix ws e' e)) w') :
    Swp P n (.code (.loop c) :: k) Q e w := by
  intro a h1 h2 h3
  refine wp_loop_ghost (I := fun s a w => a.tmps.size = n ∧ a.defers = [] ∧ Φ s w ∧ slotsOk (L s) (envOf a) ∧ agreeOff ws (envOf a) e) μ (s0 := s0) ⟨h1, h2, h0, h3 ▸ hL0, h3 ▸ agree_refl⟩ ?_
  rintro s a w ⟨g1, g2, g3, g4, g5⟩
  have hr := round s (envOf a) w g3
  rw [mix_of_agree g5, upds_of_slotsOk g4] at hr
  refine wp_mono (hr a g1 g2 rfl) ?_
  rintro x a' w' ⟨r1, r2, r3⟩
  cases x with
  | normal =>
    obtain ⟨s', q1, q2, q3, q4⟩ := r3
    exact ⟨s', ⟨r1, r2, q1, q3, q4⟩, q2⟩
  | _ => exact ⟨r1, r2, r3⟩
end

/-! ## Results -/
def packV : List Value → Value
  | [v] => v
  | vs => .tuple vs.toArray
def ResOk (P : Program) (e : Env) (w : World) : List ResultVar → List Value → Prop
  | [], [] => True
  | .tmp t :: r, v :: vs => e t = v ∧ ResOk P e w r vs
  | .cell a t :: r, v :: vs => (∃ p, e a = .pointer (some p) ∧ (loadVar t p).run P w = .ok v w) ∧ ResOk P e w r vs
  | _, _ => False

theorem run_results_list {P : Program} {e : Env} {w : World} {tmps : Array Value} (he : ∀ i, tmps.getD i undef = e i) (g : ResultVar → Sem Value)
    (g1 : ∀ t, g (.tmp t) = pure (tmps.getD t undef)) (g2 : ∀ a t, g (.cell a t) = (do loadVar t (← asAddr (tmps.getD a undef)))) : ∀ {rl : List ResultVar} {vs : List Value}, ResOk P e w rl vs →
    (rl.mapM g).run P w = .ok vs w
  | [], [], _ => by simp
  | .tmp t :: r, v :: vs, h => by
    simp only [List.mapM_cons, Sem.run_bind, Sem.run_pure, Result.andThen_ok, run_results_list he g g1 g2 h.2, g1, he t, h.1]
  | .cell a t :: r, v :: vs, h => by
    obtain ⟨p, hp, hl⟩ := h.1
    have : (asAddr (tmps.getD a undef)).run P w = .ok p w := by rw [he a, hp]; rfl
    simp only [List.mapM_cons, Sem.run_bind, g2, this, Result.andThen_ok, hl, run_results_list he g g1 g2 h.2, Sem.run_pure]
  | [], _ :: _, h => h.elim
  | .tmp _ :: _, [], h => h.elim
  | .cell _ _ :: _, [], h => h.elim

theorem calls_of {P : Program} {f : FuncId} {fn : Func} {c : Code} {l : List Value} {rl : List ResultVar} {n : Nat} {w : World} {R : Ending → World → Prop}
    (hf : P.funcs[f]? = some fn) (hb : fn.body = some c) (hn : fn.ntmps = n) (hr : fn.results = rl.toArray) (hl : l.length ≤ n)
    (h : Swp P n [.code c] (fun e w' => ∃ vs, ResOk P e w' rl vs ∧ R (.returned (packV vs)) w') (ofArgs l) w) :
    Calls P f l.toArray w R := by
  subst hn
  refine calls_of_Swp hf hb hl (h.mono ?_)
  rintro e w' ⟨vs, h1, h2⟩ tmps he
  refine ⟨packV vs, ?_, h2⟩
  unfold results
  rw [hr]
  simp only [List.mapM_toArray, Sem.run_bind, Sem.run_map]
  rw [run_results_list he _ (fun _ => rfl) (fun _ _ => rfl) h1]
  simp only [Result.andThen_ok]
  cases vs with
  | nil => rfl
  | cons v vs => cases vs <;> simp [packV]
end Go.X
