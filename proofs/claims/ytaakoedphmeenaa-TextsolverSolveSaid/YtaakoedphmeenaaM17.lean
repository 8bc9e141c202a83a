/-
 Loops: counted, scanning, with a ghost state. Plain theorems.
-/
import Derived.Test.YtaakoedphmeenaaM1
set_option linter.unusedSimpArgs false
set_option linter.unusedVariables false
namespace Go.X
theorem Tm.loopG {σ ρ G : Type} {body : Nat → σ → Option (Stp σ ρ)} (I : G → σ → Prop) (μ : G → Nat) {Q : ρ → Prop} {s0 : σ} (g0 : G) (h0 : I g0 s0)
 (h : ∀ g s, I g s → Tm (fun N => body N s) (fun t => match t with | .next s' => ∃ g', I g' s' ∧ μ g' < μ g | .done r => Q r)) :
 Tm (fun N => loopM (body N) N s0) Q := by
 have key : ∀ (m : Nat) (g : G) (s : σ), μ g ≤ m → I g s → ∃ a K, Q a ∧ ∀ N n, K ≤ N → K ≤ n → loopM (body N) n s = some a := by
  intro m
  induction m with
  | zero =>
   intro g s hm hI
   obtain ⟨t, N0, hT, hN⟩ := h g s hI
   cases t with
   | next s' => obtain ⟨g', _, h2⟩ := hT; exact absurd h2 (by omega)
   | done r => exact ⟨r, N0 + 1, hT, fun N n h1 h2 => by obtain ⟨n, rfl⟩ : ∃ k, n = k + 1 := ⟨n - 1, by omega⟩; exact loopM_done (hN N (by omega))⟩
  | succ m ih =>
   intro g s hm hI
   obtain ⟨t, N0, hT, hN⟩ := h g s hI
   cases t with
   | next s' =>
    obtain ⟨g', h1, h2⟩ := hT
    obtain ⟨a, K, hQ, hK⟩ := ih g' s' (by omega) h1
    exact ⟨a, max N0 K + 1, hQ, fun N n h1 h2 => by obtain ⟨n, rfl⟩ : ∃ k, n = k + 1 := ⟨n - 1, by omega⟩; rw [loopM_next (hN N (by omega))]; exact hK N n (by omega) (by omega)⟩
   | done r => exact ⟨r, N0 + 1, hT, fun N n h1 h2 => by obtain ⟨n, rfl⟩ : ∃ k, n = k + 1 := ⟨n - 1, by omega⟩; exact loopM_done (hN N (by omega))⟩
 obtain ⟨a, K, hQ, hK⟩ := key (μ g0) g0 s0 (Nat.le_refl _) h0
 exact ⟨a, K, hQ, fun N hN => hK N N hN hN⟩
theorem Tm.up {σ ρ : Type} {body : Nat → σ → Option (Stp σ ρ)} {Q : ρ → Prop} {s0 : σ} (n : Nat) (J : Nat → σ → Prop) (h0 : J 0 s0)
 (h : ∀ k, k ≤ n → ∀ s, J k s → Tm (fun N => body N s) (fun t => match t with | .next s' => k < n ∧ J (k + 1) s' | .done r => Q r)) :
 Tm (fun N => loopM (body N) N s0) Q := by
 refine Tm.loopG (fun k s => k ≤ n ∧ J k s) (fun k => n - k) 0 ⟨Nat.zero_le _, h0⟩ fun k s hs => (h k hs.1 s hs.2).mono fun t ht => ?_
 cases t with
 | next s' => exact ⟨k + 1, ⟨ht.1, ht.2⟩, by have := ht.1; omega⟩
 | done r => exact ht
theorem Tm.some {α : Type} {a : α} {Q : α → Prop} (h : Q a) : Tm (fun _ => Option.some a) Q := Tm.pure h
theorem Tm.eq {α β : Type} {f : Nat → Option α} {g : Nat → α → Option β} {a : α} {R : β → Prop} (h : Tm f (· = a)) (k : Tm (fun N => g N a) R) : Tm (fun N => (f N).bind (g N)) R :=
 h.bind fun b hb => by subst hb; exact k
theorem iw_n {k : Nat} (h : k + 1 ≤ 9223372036854775807) : iw ((k : Int) + 1) = ((k + 1 : Nat) : Int) := by rw [iw_eq] <;> omega
theorem idx_n {α : Type} {xs : List α} {k : Nat} (h : k < xs.length) : idx xs (k : Int) = some xs[k] := idx_ok h
theorem Tm.allL {α : Type} {b : Nat → Int → Option (Stp Int (Sum Unit Bool))} (xs : List α) (g : α → Bool) (hn : xs.length ≤ 9223372036854775807)
 (h : ∀ k (hk : k < xs.length), Tm (fun N => b N (k : Int)) (· = if g xs[k] then Stp.next (iw ((k : Int) + 1)) else Stp.done (Sum.inr false)))
 (hd : Tm (fun N => b N (xs.length : Int)) (· = Stp.done (Sum.inl ()))) :
 Tm (fun N => loopM (b N) N 0) (· = if xs.all g then Sum.inl () else Sum.inr false) := by
 refine Tm.up xs.length (fun k s => s = (k : Int) ∧ xs.all g = (xs.drop k).all g) ⟨rfl, by simp⟩ ?_
 rintro k hk i ⟨rfl, ho⟩
 rcases Nat.lt_or_ge k xs.length with hlt | hge
 · rw [List.drop_eq_getElem_cons hlt, List.all_cons] at ho
   refine (h k hlt).mono fun t ht => ?_
   subst ht
   cases hg : g xs[k] with
   | true => rw [hg] at ho; exact ⟨hlt, iw_n (by omega), by simpa using ho⟩
   | false => rw [hg] at ho; show _ = _; rw [ho]; simp
 · have : k = xs.length := by omega
   subst this
   refine hd.mono fun t ht => ?_
   subst ht
   show _ = _
   rw [ho]; simp
theorem Tm.findL {α ρ : Type} {b : Nat → Int → Option (Stp Int (Sum Unit ρ))} (xs : List α) (g : α → Bool) (v : Nat → ρ) (hn : xs.length ≤ 9223372036854775807)
 (h : ∀ k (hk : k < xs.length), Tm (fun N => b N (k : Int)) (· = if g xs[k] then Stp.done (Sum.inr (v k)) else Stp.next (iw ((k : Int) + 1))))
 (hd : Tm (fun N => b N (xs.length : Int)) (· = Stp.done (Sum.inl ()))) :
 Tm (fun N => loopM (b N) N 0) (fun o => (xs.any g = false ∧ o = Sum.inl ()) ∨ (∃ k, ∃ hk : k < xs.length, g xs[k] = true ∧ (∀ j (hj : j < k), g (xs[j]'(by omega)) = false) ∧ o = Sum.inr (v k))) := by
 refine Tm.up xs.length (fun k s => s = (k : Int) ∧ ∀ j (hj : j < k) (hl : j < xs.length), g xs[j] = false) ⟨rfl, fun j hj => by omega⟩ ?_
 rintro k hk i ⟨rfl, ho⟩
 rcases Nat.lt_or_ge k xs.length with hlt | hge
 · refine (h k hlt).mono fun t ht => ?_
   subst ht
   cases hg : g xs[k] with
   | true => exact .inr ⟨k, hlt, hg, fun j hj => ho j hj (by omega), rfl⟩
   | false =>
    refine ⟨hlt, iw_n (by omega), fun j hj hl => ?_⟩
    by_cases e : j = k
    · subst e; exact hg
    · exact ho j (by omega) hl
 · have : k = xs.length := by omega
   subst this
   refine hd.mono fun t ht => ?_
   subst ht
   refine .inl ⟨?_, rfl⟩
   rw [List.any_eq_false]
   intro x hx
   obtain ⟨j, hj, rfl⟩ := List.getElem_of_mem hx
   rw [ho j hj hj]; simp
theorem Tm.allN {b : Nat → Int → Option (Stp Int (Sum Unit Bool))} (n : Nat) (g : Nat → Bool) (hn : n ≤ 9223372036854775807)
 (h : ∀ k, k < n → Tm (fun N => b N (k : Int)) (· = if g k then Stp.next (iw ((k : Int) + 1)) else Stp.done (Sum.inr false)))
 (hd : Tm (fun N => b N (n : Int)) (· = Stp.done (Sum.inl ()))) :
 Tm (fun N => loopM (b N) N 0) (· = if (List.range n).all g then Sum.inl () else Sum.inr false) := by
 refine Tm.allL (List.range n) g (by simpa using hn) (fun k hk => ?_) (by simpa using hd)
 have : (List.range n)[k] = k := by simp
 rw [this]
 exact h k (by simpa using hk)
theorem or_if {c d : Prop} [Decidable c] [Decidable d] : (if c then some true else some (decide d)) = some (decide (c ∨ d)) := by
 by_cases h : c <;> simp [h]
end Go.X
