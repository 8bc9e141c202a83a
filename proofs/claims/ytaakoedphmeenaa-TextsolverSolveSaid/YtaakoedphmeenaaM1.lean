/-
 Plain counterparts that hand on an answer from some fuel on; numbers written in digits. Plain theorems.
-/
import Derived.Test.YtaakoedphmeenaaZ
set_option linter.unusedSimpArgs false
set_option linter.unusedVariables false
namespace Go.X
open Go
def Tm {α : Type} (f : Nat → Option α) (Q : α → Prop) : Prop := ∃ a N0, Q a ∧ ∀ N, N0 ≤ N → f N = some a
section
variable {α β σ ρ : Type}
theorem Tm.pure {a : α} {Q : α → Prop} (h : Q a) : Tm (fun _ => some a) Q := ⟨a, 0, h, fun _ _ => rfl⟩
theorem Tm.bind {f : Nat → Option α} {g : Nat → α → Option β} {Q : α → Prop} {R : β → Prop} (h : Tm f Q) (k : ∀ a, Q a → Tm (fun N => g N a) R) : Tm (fun N => (f N).bind (g N)) R := by
 obtain ⟨a, N0, hQ, h⟩ := h
 obtain ⟨b, N1, hR, k⟩ := k a hQ
 exact ⟨b, max N0 N1, hR, fun N hN => by show (f N).bind (g N) = some b; rw [h N (by omega)]; exact k N (by omega)⟩
theorem Tm.step {f : Option α} {a : α} (e : f = some a) {g : Nat → α → Option β} {R : β → Prop} (k : Tm (fun N => g N a) R) : Tm (fun N => f.bind (g N)) R := by
 subst e; exact k
theorem Tm.mono {f : Nat → Option α} {Q R : α → Prop} (h : Tm f Q) (k : ∀ a, Q a → R a) : Tm f R := by
 obtain ⟨a, N0, hQ, h⟩ := h
 exact ⟨a, N0, k a hQ, h⟩
theorem Tm.pos {c : Prop} [Decidable c] {f g : Nat → Option α} {Q : α → Prop} (hc : c) (h : Tm f Q) : Tm (fun N => if c then f N else g N) Q := by simpa only [if_pos hc] using h
theorem Tm.neg {c : Prop} [Decidable c] {f g : Nat → Option α} {Q : α → Prop} (hc : ¬ c) (h : Tm g Q) : Tm (fun N => if c then f N else g N) Q := by simpa only [if_neg hc] using h
theorem Tm.succ {f : Nat → Option α} {Q : α → Prop} (h : Tm (fun N => f (N + 1)) Q) : Tm f Q := by
 obtain ⟨a, N0, hQ, h⟩ := h
 refine ⟨a, N0 + 1, hQ, fun N hN => ?_⟩
 have h1 : f (N - 1 + 1) = some a := h (N - 1) (by omega)
 rwa [show N - 1 + 1 = N by omega] at h1
theorem Tm.get {f : Nat → Option α} {Q : α → Prop} (h : Tm f Q) : ∃ N a, f N = some a ∧ Q a := by
 obtain ⟨a, N0, hQ, h⟩ := h
 exact ⟨N0, a, h N0 (Nat.le_refl _), hQ⟩
end
theorem idx_get {α : Type} {xs : List α} {n : Nat} {x : α} (h : xs[n]? = some x) : idx xs (n : Int) = some x := by
 unfold idx; rw [if_neg (by omega)]; simpa using h
theorem idx_ok {α : Type} {xs : List α} {n : Nat} (h : n < xs.length) : idx xs (n : Int) = some xs[n] := idx_get (List.getElem?_eq_getElem h)
theorem upd1_i {α : Type} {xs : List α} {i : Int} {n : Nat} {y : α} (e : i = (n : Int)) (h : n < xs.length) : upd1 xs i y = some (xs.set n y) := by
 subst e; unfold upd1; rw [if_neg (by omega)]; simp
theorem cut_i {α : Type} {xs : List α} {i j : Int} {m n : Nat} (e : i = (m : Int)) (e' : j = (n : Int)) (h : m ≤ n) (h' : n ≤ xs.length) : cut xs i j = some ((xs.take n).drop m) := by
 subst e; subst e'; unfold cut; rw [if_neg (by omega)]; simp
theorem apnd_ok {α : Type} {b : Nat} {xs ys : List α} (h : (xs.length + ys.length) * b ≤ 140737488355328) (hb : 0 < b) : apnd b xs ys = some (xs ++ ys) := by
 unfold apnd
 have : xs.length + ys.length ≤ (xs.length + ys.length) * b := Nat.le_mul_of_pos_right _ hb
 rw [if_pos ⟨h, by omega⟩]
theorem mk1_ok {α : Type} {b : Nat} {z : α} {i : Int} {n : Nat} (e : i = (n : Int)) (h : b * n ≤ 281474976710656) (hb : 0 < b) : mk1 b z i = some (List.replicate n z) := by
 subst e; unfold mk1
 have : n ≤ b * n := Nat.le_mul_of_pos_left _ hb
 rw [if_neg (by simp; omega)]; simp
theorem chk_ok {p : Prop} [Decidable p] (h : p) : chk p = some () := by unfold chk; rw [if_pos h]
def val (B : Int) : List Int → Int
 | [] => 0
 | x :: xs => x + B * val B xs
structure Lo {α : Type} (a b : Option α) : Prop where
 le : ∀ r, a = some r → b = some r
section
variable {α β σ ρ : Type}
theorem Lo.refl (a : Option α) : Lo a a := ⟨fun _ h => h⟩
theorem Lo.none {b : Option α} : Lo Option.none b := ⟨fun _ h => by cases h⟩
theorem Lo.bind {a b : Option α} {f g : α → Option β} (h : Lo a b) (k : ∀ x, Lo (f x) (g x)) : Lo (a.bind f) (b.bind g) := ⟨fun r hr => by
 cases a with
 | none => cases hr
 | some x => rw [h.le x rfl]; exact (k x).le r hr⟩
theorem Lo.ite {c : Prop} [Decidable c] {a b a' b' : Option α} (h : Lo a b) (h' : Lo a' b') : Lo (if c then a else a') (if c then b else b') := by
 by_cases hc : c
 · rw [if_pos hc, if_pos hc]; exact h
 · rw [if_neg hc, if_neg hc]; exact h'
theorem Lo.loop {f g : σ → Option (Stp σ ρ)} {N M : Nat} (hN : N ≤ M) (h : ∀ s, Lo (f s) (g s)) {s : σ} : Lo (loopM f N s) (loopM g M s) := by
 have key : ∀ (N : Nat) (s : σ) (r : ρ), loopM f N s = some r → loopM g N s = some r := by
  intro N
  induction N with
  | zero => intro s r hr; simp [loopM] at hr
  | succ N ih =>
   intro s r hr
   simp only [loopM] at hr ⊢
   cases hf : f s with
   | none => rw [hf] at hr; cases hr
   | some o =>
    rw [hf] at hr
    rw [(h s).le o hf]
    cases o with
    | next s' => exact ih s' r hr
    | done r' => exact hr
 exact ⟨fun r hr => loopM_more (key N s r hr) hN⟩
theorem Lo.tm {f : Nat → Option α} (h : ∀ {N M}, N ≤ M → Lo (f N) (f M)) {N : Nat} {a : α} (e : f N = some a) : Tm f (· = a) := ⟨a, N, rfl, fun _ hM => (h hM).le a e⟩
end
end Go.X
