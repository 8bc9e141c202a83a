/-
  Slices that a function makes and appends to; slicing; data in new memory. Plain theorems over any program.
-/
import Derived.Test.YtakkacdhlocckaaX5
import Derived.Laws.BytesArg
import Derived.Laws.IdiomStrings
namespace Go.X
open Go Go.RowKit
def ints (k : IntKind) (xs : List Nat) : List Value := xs.map (fun x => Value.int k ((x : Nat) : Int))
theorem ints_length (k : IntKind) (xs : List Nat) : (ints k xs).length = xs.length := by simp [ints]
theorem ints_get {k : IntKind} {xs : List Nat} {i : Nat} (h : i < xs.length) : (ints k xs)[i]? = some (.int k ((xs[i] : Nat) : Int)) := by simp [ints, h]
theorem Ints.nil {k : IntKind} {H : Hp} : Ints k H (.slice none 0 0) [] := .inl ⟨⟨_, rfl⟩, rfl⟩
theorem Ints.cells {k : IntKind} {H : Hp} {b o n cap : Nat} {xs : List Nat} (h : Ints k H (.slice (some ⟨b, o, none⟩) n cap) xs) : n = xs.length ∧ At H b o (ints k xs) ∧ xs.length ≤ cap := by
  rcases h with ⟨⟨oa, h⟩, rfl⟩ | ⟨b', o', cap', hv, hc, hx⟩
  · cases h; exact ⟨rfl, fun i hi => by simp [ints] at hi, Nat.le_refl _⟩
  · cases hv
    refine ⟨rfl, ?_, hc⟩
    intro i hi
    rw [ints_length] at hi
    obtain ⟨vs, h1, h2, h3⟩ := hx i xs[i] (List.getElem?_eq_getElem hi)
    subst h3
    have := h2 0 (by simp)
    rw [ints_get hi]
    simpa using this
theorem Sl.one {α : Type} {sz : Nat} {R : Hp → List Value → α → Prop} {H : Hp} {v : Value} {xs : List α} (h : Sl sz R H v xs) : one v = true := by
  rcases h with ⟨⟨oa, h⟩, _⟩ | ⟨b, o, cap, hv, _⟩
  · rw [h]; rfl
  · rw [hv]; rfl
theorem Ints.one {k : IntKind} {H : Hp} {v : Value} {xs : List Nat} (h : Ints k H v xs) : X.one v = true := Sl.one h
theorem ones_nil : ones [] = true := rfl
theorem ones_cons {v : Value} {r : List Value} (h : X.one v = true) (hr : ones r = true) : ones (v :: r) = true := by simp [ones, h, hr]
def sv : Option Nat → Nat → Nat → Value
  | none, _, _ => .slice none 0 0
  | some b, n, cap => .slice (some ⟨b, 0, none⟩) n cap
section
variable {P : Program} {X B : List (Option Nat)} {w0 w w' : World} {O : List (Option Nat)} {C : List Cont}
theorem Owns.swap {w w' : World} : ∀ {O : List (Option Nat)} {C : List Cont}, Owns w O C → ∀ (i : Nat) {b : Option Nat} {c' : Cont}, i < O.length → OwnC w' b c' → (∀ k, k < w.heap.size → w'.heap[k]? = w.heap[k]?) → Owns w' (O.set i b) (C.set i c')
  | [], [], _, i, b, c', hi, _, _ => by simp at hi
  | x :: O, c :: C, h, 0, b, c', _, hc, hs => ⟨hc, h.2.same fun k hk => hs k (h.2.lt k hk)⟩
  | x :: O, c :: C, h, i + 1, b, c', hi, hc, hs => ⟨h.1.same fun k hk => hs k (by subst hk; exact h.1.lt), h.2.swap i (by simpa using hi) hc hs⟩
  | [], _ :: _, h, _, _, _, _, _, _ => h.elim
  | _ :: _, [], h, _, _, _, _, _, _ => h.elim
theorem Distinct.swap {O : List (Option Nat)} : ∀ (i : Nat) {b : Nat}, Distinct O → some b ∉ O → Distinct (O.set i (some b)) := by
  induction O with
  | nil => intro i b h _; simpa using h
  | cons x O ih =>
    intro i b h hn
    have hn' : some b ∉ O := fun hm => hn (List.mem_cons_of_mem _ hm)
    have hd : Distinct O := by cases x with | none => exact h | some y => exact h.2
    cases i with
    | zero => exact ⟨hn', hd⟩
    | succ i =>
      rw [List.set_cons_succ]
      cases x with
      | none => exact ih i hd hn'
      | some y =>
        refine ⟨fun hm => ?_, ih i hd hn'⟩
        rcases List.mem_or_eq_of_mem_set hm with h1 | h1
        · exact h.1 h1
        · cases h1; exact hn List.mem_cons_self
theorem Loc.swap (hL : Loc X B w0 w O C) (i : Nat) (hi : i < O.length) {b : Nat} {c' : Cont} (hE : Ext w w') (hb : w.heap.size ≤ b) (hc : OwnC w' (some b) c') :
    Loc X B w0 w' (O.set i (some b)) (C.set i c') ∧ Step O (O.set i (some b)) w w' := by
  have hL' := hL.ext hE
  have hsame : ∀ k, k < w.heap.size → w'.heap[k]? = w.heap[k]? := fun k hk => hE.block k hk
  have hnot : some b ∉ O := fun h => by have := hL.own.lt b h; omega
  refine ⟨⟨hL'.os, hL'.tape, hL'.output, hL'.size, hL'.keep, hL.own.swap i hi hc hsame, ?_, hL.dist.swap i hnot, hL.apart, hL.bok⟩, ⟨fun k hk _ => hsame k hk, ?_⟩⟩
  · intro c hcm
    rcases List.mem_or_eq_of_mem_set hcm with h1 | h1
    · exact hL.fresh c h1
    · cases h1; exact .inr (Nat.le_trans hL.size hb)
  · intro c hcm
    rcases List.mem_or_eq_of_mem_set hcm with h1 | h1
    · exact .inl h1
    · cases h1; exact .inr hb
theorem Loc.addNil (hL : Loc X B w0 w O C) : Loc X B w0 w (none :: O) (.cells [] :: C) ∧ Step O (none :: O) w w := by
  refine ⟨⟨hL.os, hL.tape, hL.output, hL.size, hL.keep, ⟨rfl, hL.own⟩, fun b hb => ?_, hL.dist, hL.apart, hL.bok⟩, ⟨fun _ _ _ => rfl, fun b hb => ?_⟩⟩
  · rcases List.mem_cons.1 hb with h | h
    · cases h
    · exact hL.fresh b h
  · rcases List.mem_cons.1 hb with h | h
    · cases h
    · exact .inl h
end
section
variable {P : Program} {ty : TypeId} {ρ : Operand → Value} {w : World} {R : Value → World → Prop} {X B : List (Option Nat)} {w0 : World} {O : List (Option Nat)} {C : List Cont}
theorem OpY.buildSlice0 {t el : TypeId} {sz by' : Nat} {z : Value} (hu : P.underlying t = some (.slice el)) (ti : TI P el sz by' z) (hL : Loc X B w0 w O C)
    (h : ∀ b w', Loc X B w0 w' (some b :: O) (.cells [] :: C) → Step O (some b :: O) w w' → R (.slice (some ⟨b, 0, none⟩) 0 0) w') : OpY P (.buildSlice t 0 #[]) ty ρ w R := by
  obtain ⟨i, hi, hs, hby, hzz⟩ := ti
  have hal := hL.alloc (o := .cells #[] el) (c := .cells []) (ownC_alloc w #[] el)
  simp only [OpY, bareOp, execOp]
  simp [Instr.buildSlice, run_underlying hu, sizeOf, typeInfo, hi, Instr.fill, newRow, upon, Array.range_zero']
  exact h _ _ hal.1 hal.2
theorem OpY.buildSlice {t el : TypeId} {n : Nat} {parts : List (Nat × Operand)} {sz by' : Nat} {z : Value} {cs : List Value} (hu : P.underlying t = some (.slice el)) (ti : TI P el sz by' z) (hn : n * sz ≤ 16777216)
    (hf : Instr.fill (fun i => some (i * sz, sz)) ((Array.range (n * sz)).map (z.cells[· % z.cells.size]!)) ((parts.map fun p => (p.1, ρ p.2))) = some cs.toArray) (h0 : 0 < n * sz) (hL : Loc X B w0 w O C)
    (h : ∀ b w', Loc X B w0 w' (some b :: O) (.cells cs :: C) → Step O (some b :: O) w w' → R (.slice (some ⟨b, 0, none⟩) n n) w') : OpY P (.buildSlice t n parts.toArray) ty ρ w R := by
  obtain ⟨i, hi, hs, hby, hzz⟩ := ti
  have hal := hL.alloc (o := .cells cs.toArray el) (c := .cells cs) (by simpa using ownC_alloc w cs.toArray el)
  have h1 : ¬ (16777216 < n * sz) := by omega
  have h2 : ¬ (n * sz = 0) := by omega
  have hr : (Instr.buildSlice t n ((parts.toArray.map fun (x : Nat × Operand) => (x.1, ρ x.2)))).run P w = .ok (.slice (some ⟨w.heap.size, 0, none⟩) n n) (w.alloc (.cells cs.toArray el)) := by
    have hf' : Instr.fill (fun i => some (i * sz, sz)) ((Array.range (n * sz)).map (z.cells[· % z.cells.size]!)) ((parts.toArray.map fun (x : Nat × Operand) => (x.1, ρ x.2))).toList = some cs.toArray := by
      simpa using hf
    simp only [Instr.buildSlice, Sem.run_bind, run_underlying hu, Result.andThen_ok, sizeOf, typeInfo, run_program, hi, Sem.run_pure, hs]
    simp only [gt_iff_lt, show (2 : Nat) ^ 24 = 16777216 from rfl, h1, if_false, h2, zeroValue, typeInfo, Sem.run_bind, run_program, Result.andThen_ok, hi, Sem.run_pure, hzz, hf', newRow, run_newObj]
    rfl
  simp only [OpY, bareOp, execOp]
  simp only [Sem.run_bind, hr, Result.andThen_ok, Sem.run_pure, upon]
  exact h _ _ hal.1 hal.2
end
end Go.X
