/-
  Loops by the slots that matter; a function's results. Plain theorems over any program.
-/
import Derived.Test.YtakkacdhlocckaaX4
namespace Go.X
open Go Go.RowKit
def memN (i : Nat) : List Nat → Bool
  | [] => false
  | x :: r => Nat.beq i x || memN i r
def upds : List (Nat × Value) → Env → Env
  | [], e => e
  | (d, v) :: r, e => upd (upds r e) d v
def slotsOk : List (Nat × Value) → Env → Prop
  | [], _ => True
  | (d, v) :: r, e => e d = v ∧ slotsOk r e
theorem upds_of_slotsOk : ∀ {L : List (Nat × Value)} {e : Env}, slotsOk L e → upds L e = e
  | [], _, _ => rfl
  | (d, v) :: r, e, h => by
    simp only [upds, upds_of_slotsOk h.2]
    funext i
    by_cases hi : i = d
    · subst hi; rw [upd_same]; exact h.1.symm
    · rw [upd_other _ _ hi]
section
variable {P : Program} {n : Nat} {k : List It} {Q : Env → World → Prop} {e : Env} {w : World}
theorem wp_loop_ghost {c : Code} {σ : Type} (I : σ → Act → World → Prop) (μ : σ → Nat) {Q : Exit → Act → World → Prop} {s0 : σ} {a : Act} {w : World} (h₀ : I s0 a w)
    (round : ∀ s a w, I s a w → c.wp P (Exit.then (fun a' w' => ∃ s', I s' a' w' ∧ μ s' < μ s) Q) a w) : (Code.loop c).wp P Q a w := by
  intro b k cs
  have key : ∀ n s a w, μ s = n → I s a w → ∃ e a' w', Q e a' w' ∧ Arrives P (lone (b.at a (.code c :: .inLoop c :: k)) cs w) b k cs e a' w' := by
    intro n
    induction n using Nat.strongRecOn with
    | _ n ih =>
      intro s a w hn hI
      obtain ⟨e, a₁, w₁, hq, harr⟩ := round s a w hI b (.inLoop c :: k) cs
      cases e with
      | normal =>
        obtain ⟨s', hI₁, hlt⟩ := hq
        obtain ⟨e₂, a₂, w₂, hq₂, harr₂⟩ := ih (μ s') (hn ▸ hlt) s' a₁ w₁ rfl hI₁
        exact ⟨e₂, a₂, w₂, hq₂, .of_steps (Steps.trans harr (.one step_inLoop)) harr₂⟩
      | exit id => exact ⟨_, a₁, w₁, hq, .pass (x := .inLoop c) rfl (fun _ _ => .inl (by simp)) harr⟩
      | goto l => exact ⟨_, a₁, w₁, hq, .pass (x := .inLoop c) rfl (fun _ _ => .inl (by simp)) harr⟩
      | ret => exact ⟨_, a₁, w₁, hq, .pass (x := .inLoop c) rfl (fun _ _ => .inl (by simp)) harr⟩
      | panic ch => exact ⟨_, a₁, w₁, hq, .pass (x := .inLoop c) rfl (fun _ _ => .inl (by simp)) harr⟩
      | outgrown => exact ⟨_, a₁, w₁, hq, .pass (x := .inLoop c) rfl (fun _ _ => .inl (by simp)) harr⟩
  obtain ⟨e, a', w', hq, harr⟩ := key _ s0 a w rfl h₀
  exact ⟨e, a', w', hq, .of_steps (.one step_loop) harr⟩
end
def packV : List Value → Value
  | [v] => v
  | vs => .tuple vs.toArray
def ResOk (P : Program) (e : Env) (w : World) : List ResultVar → List Value → Prop
  | [], [] => True
  | .tmp t :: r, v :: vs => e t = v ∧ ResOk P e w r vs
  | .cell a t :: r, v :: vs => (∃ p, e a = .pointer (some p) ∧ (loadVar t p).run P w = .ok v w) ∧ ResOk P e w r vs
  | _, _ => False
theorem run_results_list {P : Program} {e : Env} {w : World} {tmps : Array Value} (he : ∀ i, tmps.getD i undef = e i) (g : ResultVar → Sem Value)
    (g1 : ∀ t, g (.tmp t) = pure (tmps.getD t undef)) (g2 : ∀ a t, g (.cell a t) = (do loadVar t (← asAddr (tmps.getD a undef)))) : ∀ {rl : List ResultVar} {vs : List Value}, ResOk P e w rl vs →
    (rl.mapM g).run P w = .ok vs w
  | [], [], _ => by simp
  | .tmp t :: r, v :: vs, h => by
    simp only [List.mapM_cons, Sem.run_bind, Sem.run_pure, Result.andThen_ok, run_results_list he g g1 g2 h.2, g1, he t, h.1]
  | .cell a t :: r, v :: vs, h => by
    obtain ⟨p, hp, hl⟩ := h.1
    have : (asAddr (tmps.getD a undef)).run P w = .ok p w := by rw [he a, hp]; rfl
    simp only [List.mapM_cons, Sem.run_bind, g2, this, Result.andThen_ok, hl, run_results_list he g g1 g2 h.2, Sem.run_pure]
  | [], _ :: _, h => h.elim
  | .tmp _ :: _, [], h => h.elim
  | .cell _ _ :: _, [], h => h.elim
theorem calls_of {P : Program} {f : FuncId} {fn : Func} {c : Code} {l : List Value} {rl : List ResultVar} {n : Nat} {w : World} {R : Ending → World → Prop}
    (hf : P.funcs[f]? = some fn) (hb : fn.body = some c) (hn : fn.ntmps = n) (hr : fn.results = rl.toArray) (hl : l.length ≤ n)
    (h : Swp P n [.code c] (fun e w' => ∃ vs, ResOk P e w' rl vs ∧ R (.returned (packV vs)) w') (ofArgs l) w) :
    Calls P f l.toArray w R := by
  subst hn
  refine calls_of_Swp hf hb hl (h.mono ?_)
  rintro e w' ⟨vs, h1, h2⟩ tmps he
  refine ⟨packV vs, ?_, h2⟩
  unfold results
  rw [hr]
  simp only [List.mapM_toArray, Sem.run_bind, Sem.run_map]
  rw [run_results_list he _ (fun _ => rfl) (fun _ _ => rfl) h1]
  simp only [Result.andThen_ok]
  cases vs with
  | nil => rfl
  | cons v vs => cases vs <;> simp [packV]
end Go.X
