/-
  Arrays behind pointers, a text's byte, small things. Plain theorems over any program.
-/
import Derived.Test.YtakkacdhlocckaaX9
namespace Go.X
open Go Go.RowKit
theorem zipfold : ∀ (cs A : List Value) (off k : Nat), (cs.zipIdx k).foldl (fun (a : Array Value) p => a.setIfInBounds (off + p.2) p.1) A.toArray = (putAt A (off + k) cs).toArray
  | [], A, off, k => rfl
  | v :: r, A, off, k => by
    simp only [List.zipIdx_cons, List.foldl_cons, putAt, List.setIfInBounds_toArray]
    rw [zipfold r (A.set (off + k) v) off (k + 1), Nat.add_assoc]
def numbered : Nat → List Value → List (Nat × Value)
  | _, [] => []
  | k, v :: r => (k, v) :: numbered (k + 1) r
def cellsAre (sz : Nat) : List Value → List (List Value) → Prop
  | [], [] => True
  | v :: r, c :: cs => v.cells = c.toArray ∧ c.length = sz ∧ cellsAre sz r cs
  | _, _ => False
theorem fill_run {sz : Nat} : ∀ (vs : List Value) (css : List (List Value)) (k : Nat) (pre post : List Value), pre.length = k * sz → post.length = vs.length * sz → cellsAre sz vs css →
    Instr.fill (fun i => some (i * sz, sz)) (pre ++ post).toArray (numbered k vs) = some (pre ++ css.flatten).toArray
  | [], [], k, pre, post, h1, h2, _ => by
    have : post = [] := List.eq_nil_of_length_eq_zero (by simpa using h2)
    subst this; simp [numbered, Instr.fill]
  | v :: r, c :: cs, k, pre, post, h1, h2, h3 => by
    obtain ⟨g1, g2, g3⟩ := h3
    have hl : sz ≤ post.length := by rw [h2, List.length_cons, Nat.add_mul]; omega
    have hf := zipfold c (pre ++ post) (k * sz) 0
    rw [Nat.add_zero] at hf
    have hp : putAt (pre ++ post) (k * sz) c = (pre ++ c) ++ post.drop sz := by
      rw [← h1, putAt_append pre post c (by omega), g2]
    have ih := fill_run r cs (k + 1) (pre ++ c) (post.drop sz) (by simp [h1, g2, Nat.add_mul]) (by simp [h2, Nat.add_mul]) g3
    simp only [numbered, Instr.fill]
    have h5 : ¬ (v.cells.size ≠ sz ∨ (pre ++ post).toArray.size < k * sz + v.cells.size) := by
      rw [g1]; simp [g2, h1]; omega
    rw [if_neg (by simpa using h5)]
    have h6 : v.cells.zipIdx.foldl (fun (cs : Array Value) (x : Value × Nat) => cs.setIfInBounds (k * sz + x.2) x.1) (pre ++ post).toArray = ((pre ++ c) ++ post.drop sz).toArray := by
      rw [g1, ← hp, ← hf]
      rw [← Array.foldl_toList]; simp
    rw [h6, ih]
    simp
  | [], _ :: _, _, _, _, _, _, h => h.elim
  | _ :: _, [], _, _, _, _, _, h => h.elim
section
variable {P : Program} {ty : TypeId} {ρ : Operand → Value} {w : World} {R : Value → World → Prop} {X B : List (Option Nat)} {w0 : World} {O : List (Option Nat)} {C : List Cont}
theorem OpY.buildSliceV {t el : TypeId} {n : Nat} {parts : List (Nat × Operand)} {sz by' : Nat} {z : Value} {vs : List Value} {css : List (List Value)} (hu : P.underlying t = some (.slice el)) (ti : TI P el sz by' z) (hn : n * sz ≤ 16777216)
    (hp : (parts.map fun p => (p.1, ρ p.2)) = numbered 0 vs) (hvs : vs.length = n) (hc : cellsAre sz vs css) (h0 : 0 < n * sz) (hL : Loc X B w0 w O C)
    (h : ∀ b w', Loc X B w0 w' (some b :: O) (.cells css.flatten :: C) → Step O (some b :: O) w w' → R (.slice (some ⟨b, 0, none⟩) n n) w') : OpY P (.buildSlice t n parts.toArray) ty ρ w R := by
  refine OpY.buildSlice hu ti hn ?_ h0 hL h
  have := fill_run (sz := sz) vs css 0 [] ((Array.range (n * sz)).map (z.cells[· % z.cells.size]!)).toList (by simp) (by simp [hvs]) hc
  rw [hp]
  rw [List.nil_append, List.nil_append, Array.toArray_toList] at this
  exact this
end
instance (xs : List Nat) : Decidable (bytesOk xs) := inferInstanceAs (Decidable (∀ x ∈ xs, x < 256))
end Go.X
