/-
  The laws of chapter 18 whose arguments' bulk is bounded. Plain theorems.
-/
import Derived.Test.YtakkacdhlocckaaM15
namespace Go.D
open Go Go.X
inductive InPr : Proof → Prop
  | mk {p : Proof} (h1 : ∀ s ∈ p.Steps, InS s) (h2 : p.Form.length ≤ 9223372036854775807) (h3 : ∀ b ∈ p.Form, In32 b) (h4 : In32 p.Bound) (h5 : p.Children.length ≤ 9223372036854775807) (h6 : ∀ c ∈ p.Children, InPr c) : InPr p
def xv (x : List Big) (j : Nat) : Int := bv (x.getD j big0)
theorem dot_dotF {a b : List Big} : ∀ n, dot a b n = dotF (fun j => bv (a.getD j big0)) (xv b) n
  | 0 => rfl
  | n + 1 => by simp only [dot, dotF, dot_dotF n]; rfl
theorem holds_sat {q : Ineq} {x : List Big} : holdsV q x = true ↔ Sat x.length (xv x) q := by
  unfold holdsV Sat
  rw [Bool.and_eq_true, decide_eq_true_eq, decide_eq_true_eq, dot_dotF]; rfl
theorem rAll_tm {K : Nat} {l : List Ineq} {x : List Big} (hK : K ≤ 1073741824) (hl : l.length ≤ 9223372036854775807) (hq : ∀ q ∈ l, OkI K q) (hx : ∀ b ∈ x, OkB K b) (hxl : x.length ≤ 9223372036854775807) : Tm (fun N => rAll N l x) (fun r => r = true → ∀ q ∈ l, Sat x.length (xv x) q) := by
  unfold rAll
  refine Tm.bind (Tm.each (body := fun N => rAll_b1 N l x) l (fun q => Sat x.length (xv x) q) (Q := fun t => t = .inr false ∨ (t = .inl () ∧ ∀ q ∈ l, Sat x.length (xv x) q)) hl ?_ ?_) ?_
  · intro n hn _
    dsimp only [rAll_b1]
    refine Tm.pos (by omega) (Tm.step (idx_ok hn) (Tm.bind (rHolds_tm hK (hq _ (List.getElem_mem hn)) hx hxl) ?_))
    rintro _ rfl
    refine Tm.ite (fun h => Tm.pure (.inr ⟨_, rfl, .inl rfl⟩)) (fun h => Tm.pure (.inl ⟨rfl, holds_sat.1 (by simpa using h)⟩))
  · intro hall
    dsimp only [rAll_b1]
    exact Tm.neg (by omega) (Tm.pure ⟨_, rfl, .inr ⟨rfl, hall⟩⟩)
  · rintro _ (rfl | ⟨rfl, h⟩)
    · exact Tm.pure (fun h => by cases h)
    · exact Tm.pure (fun _ => h)
theorem nV_of {l : List Ineq} {x : List Big} (hn : l ≠ []) (h : ∀ q ∈ l, Sat x.length (xv x) q) : nV l = x.length := by
  cases l with
  | nil => exact absurd rfl hn
  | cons a r => exact (h a List.mem_cons_self).1
theorem small3_tm {l : List Ineq} {x : List Big} (hl : (l.length + 1) * 56 ≤ 140737488355328) (hq : ∀ q ∈ l, InI q) (hx : ∀ b ∈ x, In32 b) (hxl : x.length ≤ 9223372036854775807) :
    Tm (fun N => rSmall N ([(Ineq.mk x (Big.mk false []))] ++ l)) (fun r => r = true → (l.length ≤ 12 ∧ ∀ q ∈ l, OkI 6 q) ∧ ∀ b ∈ x, OkB 6 b) := by
  refine (rSmall_tm (by simp; omega) (fun q h => ?_)).mono ?_
  · rcases List.mem_append.1 h with h | h
    · rcases List.mem_singleton.1 h with rfl; exact hxl
    · exact (hq q h).1
  · intro r hr h
    obtain ⟨h1, h2⟩ := hr h
    have hx1 := h2 _ (List.mem_append_left _ (List.mem_singleton.2 rfl))
    refine ⟨⟨by simp at h1; omega, fun q hq' => (h2 q (List.mem_append_right _ hq')).ok (hq q hq')⟩, fun b hb => ⟨hx b hb, ?_⟩⟩
    have := hx1.2.1 b hb
    omega
theorem lawStep_tm {l : List Ineq} {s : Step} {x : List Big} (hl : (l.length + 1) * 56 ≤ 140737488355328) (hq : ∀ q ∈ l, InI q) (hs : InS s) (hx : ∀ b ∈ x, In32 b) (hxl : x.length ≤ 9223372036854775807) : Tm (fun N => lawStep N l s x) (fun r => r = true) := by
  unfold lawStep
  refine Tm.bind (Q := fun r => r = false → ((l.length ≤ 12 ∧ ∀ q ∈ l, OkI 6 q) ∧ ∀ b ∈ x, OkB 6 b) ∧ OkS s) (Tm.bind awake_tm ?_) ?_
  · rintro _ rfl
    refine Tm.neg (by simp) (Tm.step (apnd_ok (by simp only [List.length_cons, List.length_nil]; omega) (by decide)) (Tm.bind (small3_tm hl hq hx hxl) ?_))
    intro r hr
    refine Tm.ite (fun h => Tm.pure (fun h => by cases h)) (fun h => ?_)
    have h1 := hr (by simpa using h)
    refine Tm.bind (rSmallStep_tm hs) ?_
    intro t ht
    exact Tm.pure (fun h => ⟨h1, ht (by simpa using h)⟩)
  · intro r hr
    refine Tm.ite (fun h => Tm.bind awake_tm (fun _ h => Tm.pure h)) (fun h => ?_)
    obtain ⟨⟨⟨h1, h2⟩, h4⟩, h3⟩ := hr (by simpa using h)
    refine Tm.bind (cApply_tm (K := 6) (by decide) (by omega) h2 h3) ?_
    rintro ⟨q, ok⟩ ⟨ha, hao⟩
    refine Tm.ite (fun g => Tm.pure rfl) (fun g => Tm.ite (fun g1 => Tm.pure rfl) (fun g1 => ?_))
    have hok : ok = true := by simpa using g
    subst hok
    have hn : l ≠ [] := fun e => g1 (by rw [e]; rfl)
    refine Tm.bind (rAll_tm (K := 6) (by decide) (by omega) h2 h4 hxl) ?_
    intro r hall
    refine Tm.ite (fun g2 => Tm.pure rfl) (fun g2 => ?_)
    have hsat := hall (by simpa using g2)
    have hnv := nV_of hn hsat
    refine Tm.bind (rHolds_tm (K := 26) (by decide) hao (fun b hb => (h4 b hb).mono (by decide)) hxl) ?_
    rintro _ rfl
    refine Tm.pure (holds_sat.2 ?_)
    rw [← hnv]
    exact (apply_sat ha (fun y hy => by rw [hnv]; exact hsat y hy)).2
end Go.D
