/-
 Classes: their variables, by the program and by the reference. Plain theorems.
-/
import Derived.Test.YtaakoedphmeenaaK7
set_option linter.unusedSimpArgs false
set_option linter.unusedVariables false
namespace Go.D
open Go Go.X
section
variable {p : TProb} {L : List Int}
theorem rk_range : ∀ n, ((List.range n).filter (isL L)).map (rk L) = List.range (rk L n)
 | 0 => rfl
 | n + 1 => by
  rw [List.range_succ, List.filter_append, List.map_append, rk_range n, rk_succ]
  cases h : isL L n with
  | true => simp [h, List.range_succ]
  | false => simp [h]
def cls (L : List Int) (v : Nat) : Nat := rk L (L.getD v 0).toNat
theorem cls_of {v k : Nat} (e : L[v]? = some (k : Int)) : cls L v = rk L k := by
 unfold cls; rw [List.getD_eq_getElem?_getD, e]; rfl
theorem num_get (h : Lb p L) {v : Nat} (hv : v < p.Min.length) : (numOf L)[v]? = some ((cls L v : Nat) : Int) := by
 obtain ⟨k, e, _, _⟩ := h.ok v hv
 rw [numOf_get, e, cls_of e]; rfl
theorem num_len : (numOf L).length = L.length := by simp [numOf]
theorem rk_mono {a b : Nat} (h : a ≤ b) : rk L a ≤ rk L b := by
 induction h with
 | refl => exact Nat.le_refl _
 | step _ ih => rw [rk_succ]; omega
theorem rk_lt {a b : Nat} (ha : isL L a = true) (h : a < b) : rk L a < rk L b := by
 have h1 := rk_mono (L := L) (show a + 1 ≤ b from h)
 rw [rk_succ, ha] at h1
 simp at h1; omega
theorem cls_lt (h : Lb p L) (hf : Fx p L) {v : Nat} (hv : v < p.Min.length) : cls L v < rk L L.length := by
 obtain ⟨k, e, hk, _⟩ := h.ok v hv
 rw [cls_of e]
 exact rk_lt (decide_eq_true (h.leads hf hv e).1) (by rw [h.len]; omega)
theorem cls_eq (h : Lb p L) (hf : Fx p L) {v i : Nat} (hv : v < p.Min.length) (hi : isL L i = true) : cls L v = rk L i ↔ L[v]? = some (i : Int) := by
 obtain ⟨k, e, hk, _⟩ := h.ok v hv
 have hl : isL L k = true := decide_eq_true (h.leads hf hv e).1
 rw [cls_of e, e]
 constructor
 · intro g
   rcases Nat.lt_trichotomy k i with g1 | g1 | g1
   · have := rk_lt (L := L) hl g1; omega
   · rw [g1]
   · have := rk_lt (L := L) hi g1; omega
 · intro g
   have := Option.some.inj g
   rw [show k = i by omega]
theorem cls_cn (hf : Fx p L) {a b : Nat} (hc : Cn p a b) : cls L a = cls L b := by
 unfold cls
 rw [List.getD_eq_getElem?_getD, List.getD_eq_getElem?_getD, hf.cn hc]
theorem cn_cls (h : Lb p L) (hf : Fx p L) {a b : Nat} (ha : a < p.Min.length) (hb : b < p.Min.length) (e : cls L a = cls L b) : Cn p a b := by
 obtain ⟨k, ek, _, ck⟩ := h.ok b hb
 have hl : isL L k = true := decide_eq_true (h.leads hf hb ek).1
 rw [cls_of ek, cls_eq h hf ha hl] at e
 obtain ⟨k', ek', _, ck'⟩ := h.ok a ha
 rw [ek'] at e
 have : k' = k := by have := Option.some.inj e; omega
 subst this
 exact ck'.trans ck.symm
theorem cls_surj (h : Lb p L) {k : Nat} (hk : k < rk L L.length) : ∃ v, v < p.Min.length ∧ cls L v = k := by
 have h1 : k ∈ ((List.range L.length).filter (isL L)).map (rk L) := by rw [rk_range]; exact List.mem_range.2 hk
 obtain ⟨i, hi, rfl⟩ := List.mem_map.1 h1
 obtain ⟨h2, h3⟩ := List.mem_filter.1 hi
 exact ⟨i, by rw [← h.len]; exact List.mem_range.1 h2, cls_of (of_decide_eq_true h3)⟩
theorem rk_le' : rk L L.length ≤ L.length := rk_le
theorem filter_le {α : Type} {P Q : α → Bool} : ∀ {l : List α}, (∀ x ∈ l, P x = true → Q x = true) → (l.filter P).length ≤ (l.filter Q).length
 | [], _ => Nat.le_refl _
 | x :: l, h => by
  have ih := filter_le (l := l) fun y hy => h y (List.mem_cons_of_mem _ hy)
  have hx := h x List.mem_cons_self
  cases hP : P x <;> cases hQ : Q x <;> simp [List.filter_cons, hP, hQ] <;> first | omega | (rw [hP, hQ] at hx; simp at hx)
theorem filter_lt {α : Type} {P Q : α → Bool} : ∀ {l : List α}, (∀ x ∈ l, P x = true → Q x = true) → (∃ x ∈ l, Q x = true ∧ P x = false) → (l.filter P).length < (l.filter Q).length
 | [], _, h => by obtain ⟨x, hx, _⟩ := h; cases hx
 | x :: l, h, h' => by
  have hl : ∀ y ∈ l, P y = true → Q y = true := fun y hy => h y (List.mem_cons_of_mem _ hy)
  have hx := h x List.mem_cons_self
  obtain ⟨y, hy, h1, h2⟩ := h'
  rcases List.mem_cons.1 hy with rfl | hy
  · have := filter_le hl
    simp [List.filter_cons, h1, h2]; omega
  · have ih := filter_lt hl ⟨y, hy, h1, h2⟩
    cases hP : P x <;> cases hQ : Q x <;> simp [List.filter_cons, hP, hQ] <;> first | omega | (rw [hP, hQ] at hx; simp at hx)
end
end Go.D
