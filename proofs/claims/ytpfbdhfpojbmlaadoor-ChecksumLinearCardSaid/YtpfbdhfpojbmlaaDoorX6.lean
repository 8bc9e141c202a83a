/-
  Slices that a function makes and appends to; slicing; data in new memory. Plain theorems over any program.
-/
import Derived.Test.YtpfbdhfpojbmlaaDoorX5
import Derived.Laws.BytesArg
import Derived.Laws.IdiomStrings
set_option linter.unusedSimpArgs false
set_option linter.unusedVariables false
namespace Go.X
open Go Go.RowKit

/-! ## Data in new memory -/
/-- φ holds in the new memory of w' (new since w), whatever else is left out. -/
def Fr (w w' : World) (φ : Hp → Prop) : Prop := ∀ A, Bok A w → φ (view A w')
section
variable {X B : List (Option Nat)} {w0 w w1 w2 : World} {O : List (Option Nat)} {C : List Cont}
theorem Loc.bokA (hL : Loc X B w0 w O C) {A : List (Option Nat)} (hA : Bok A w0) : Bok (O ++ A) w := by
  intro b hb
  rcases List.mem_append.1 hb with h | h
  · exact hL.own.lt b h
  · exact Nat.lt_of_lt_of_le (hA b h) hL.size
theorem Fr.atO {φ : Hp → Prop} (h : Fr w1 w2 φ) (hL : Loc X B w0 w1 O C) : ∀ A, Bok A w0 → φ (view (O ++ A) w2) := fun _ hA => h _ (hL.bokA hA)
theorem cellH_at_nil {H : Hp} {b o : Nat} {v : Value} {r : List Value} (h : At H b o (v :: r)) : cellH H b o = some v := h.get 0 rfl
theorem cellH_of_at {H : Hp} {b o : Nat} {vs : List Value} {v : Value} (h : At H b o vs) (hv : vs[0]? = some v) : cellH H b o = some v := h.get 0 hv
end

/-! ## Integer rows -/
def ints (k : IntKind) (xs : List Nat) : List Value := xs.map (fun x => Value.int k ((x : Nat) : Int))
theorem ints_length (k : IntKind) (xs : List Nat) : (ints k xs).length = xs.length := by simp [ints]
theorem ints_get {k : IntKind} {xs : List Nat} {i : Nat} (h : i < xs.length) : (ints k xs)[i]? = some (.int k ((xs[i] : Nat) : Int)) := by simp [ints, h]
theorem ints_set (k : IntKind) (xs : List Nat) (i x : Nat) : (ints k xs).set i (.int k ((x : Nat) : Int)) = ints k (xs.set i x) := by simp [ints, List.map_set]
theorem ints_append (k : IntKind) (xs ys : List Nat) : ints k xs ++ ints k ys = ints k (xs ++ ys) := by simp [ints]
theorem ints_replicate (k : IntKind) (n x : Nat) : List.replicate n (Value.int k ((x : Nat) : Int)) = ints k (List.replicate n x) := by simp [ints]
theorem Ints.nil {k : IntKind} {H : Hp} : Ints k H (.slice none 0 0) [] := .inl ⟨⟨_, rfl⟩, rfl⟩
theorem Ints.of_at {k : IntKind} {H : Hp} {b o cap : Nat} {xs : List Nat} (h : At H b o (ints k xs)) (hc : xs.length ≤ cap) : Ints k H (.slice (some ⟨b, o, none⟩) xs.length cap) xs := by
  refine .inr ⟨b, o, cap, rfl, hc, fun i x hx => ⟨[.int k x], rfl, ?_, rfl⟩⟩
  have hi : i < xs.length := by
    rcases Nat.lt_or_ge i xs.length with h | h
    · exact h
    · rw [List.getElem?_eq_none h] at hx; cases hx
  intro j hj
  have : j = 0 := by simp at hj; omega
  subst this
  have := h i (by rw [ints_length]; exact hi)
  rw [Nat.mul_one, Nat.add_zero, this, ints_get hi]
  rw [List.getElem?_eq_getElem hi] at hx
  cases hx; rfl
/-- the cells of a read-only slice of integers -/
theorem Ints.cells {k : IntKind} {H : Hp} {b o n cap : Nat} {xs : List Nat} (h : Ints k H (.slice (some ⟨b, o, none⟩) n cap) xs) : n = xs.length ∧ At H b o (ints k xs) ∧ xs.length ≤ cap := by
  rcases h with ⟨⟨oa, h⟩, rfl⟩ | ⟨b', o', cap', hv, hc, hx⟩
  · cases h; exact ⟨rfl, fun i hi => by simp [ints] at hi, Nat.le_refl _⟩
  · cases hv
    refine ⟨rfl, ?_, hc⟩
    intro i hi
    rw [ints_length] at hi
    obtain ⟨vs, h1, h2, h3⟩ := hx i xs[i] (List.getElem?_eq_getElem hi)
    subst h3
    have := h2 0 (by simp)
    rw [ints_get hi]
    simpa using this
theorem Sl.one {α : Type} {sz : Nat} {R : Hp → List Value → α → Prop} {H : Hp} {v : Value} {xs : List α} (h : Sl sz R H v xs) : one v = true := by
  rcases h with ⟨⟨oa, h⟩, _⟩ | ⟨b, o, cap, hv, _⟩
  · rw [h]; rfl
  · rw [hv]; rfl
theorem Ints.one {k : IntKind} {H : Hp} {v : Value} {xs : List Nat} (h : Ints k H v xs) : X.one v = true := Sl.one h
theorem ones_nil : ones [] = true := rfl
theorem ones_cons {v : Value} {r : List Value} (h : X.one v = true) (hr : ones r = true) : ones (v :: r) = true := by simp [ones, h, hr]
theorem ones_ints (k : IntKind) (xs : List Nat) : ones (ints k xs) = true := by
  induction xs with
  | nil => rfl
  | cons x r ih => exact ones_cons rfl ih

/-! ## Owned slices -/
def sv : Option Nat → Nat → Nat → Value
  | none, _, _ => .slice none 0 0
  | some b, n, cap => .slice (some ⟨b, 0, none⟩) n cap
theorem sv_one (ob : Option Nat) (n cap : Nat) : one (sv ob n cap) = true := by cases ob <;> rfl
def FreshB (w : World) (ob : Option Nat) : Prop := ∀ b, ob = some b → w.heap.size ≤ b

section
variable {P : Program} {X B : List (Option Nat)} {w0 w w' : World} {O : List (Option Nat)} {C : List Cont}

theorem Owns.swap {w w' : World} : ∀ {O : List (Option Nat)} {C : List Cont}, Owns w O C → ∀ (i : Nat) {b : Option Nat} {c' : Cont}, i < O.length → OwnC w' b c' → (∀ k, k < w.heap.size → w'.heap[k]? = w.heap[k]?) → Owns w' (O.set i b) (C.set i c')
  | [], [], _, i, b, c', hi, _, _ => by simp at hi
  | x :: O, c :: C, h, 0, b, c', _, hc, hs => ⟨hc, h.2.same fun k hk => hs k (h.2.lt k hk)⟩
  | x :: O, c :: C, h, i + 1, b, c', hi, hc, hs => ⟨h.1.same fun k hk => hs k (by subst hk; exact h.1.lt), h.2.swap i (by simpa using hi) hc hs⟩
  | [], _ :: _, h, _, _, _, _, _, _ => h.elim
  | _ :: _, [], h, _, _, _, _, _, _ => h.elim
theorem Distinct.swap {O : List (Option Nat)} : ∀ (i : Nat) {b : Nat}, Distinct O → some b ∉ O → Distinct (O.set i (some b)) := by
  induction O with
  | nil => intro i b h _; simpa using h
  | cons x O ih =>
    intro i b h hn
    have hn' : some b ∉ O := fun hm => hn (List.mem_cons_of_mem _ hm)
    have hd : Distinct O := by cases x with | none => exact h | some y => exact h.2
    cases i with
    | zero => exact ⟨hn', hd⟩
    | succ i =>
      rw [List.set_cons_succ]
      cases x with
      | none => exact ih i hd hn'
      | some y =>
        refine ⟨fun hm => ?_, ih i hd hn'⟩
        rcases List.mem_or_eq_of_mem_set hm with h1 | h1
        · exact h.1 h1
        · cases h1; exact hn List.mem_cons_self
/-- The i-th owned block gives way to a new one. -/
theorem Loc.swap (hL : Loc X B w0 w O C) (i : Nat) (hi : i < O.length) {b : Nat} {c' : Cont} (hE : Ext w w') (hb : w.heap.size ≤ b) (hc : OwnC w' (some b) c') :
    Loc X B w0 w' (O.set i (some b)) (C.set i c') ∧ Step O (O.set i (some b)) w w' := by
  have hL' := hL.ext hE
  have hsame : ∀ k, k < w.heap.size → w'.heap[k]? = w.heap[k]? := fun k hk => hE.block k hk
  have hnot : some b ∉ O := fun h => by have := hL.own.lt b h; omega
  refine ⟨⟨hL'.os, hL'.tape, hL'.output, hL'.size, hL'.keep, hL.own.swap i hi hc hsame, ?_, hL.dist.swap i hnot, hL.apart, hL.bok⟩, ⟨fun k hk _ => hsame k hk, ?_⟩⟩
  · intro c hcm
    rcases List.mem_or_eq_of_mem_set hcm with h1 | h1
    · exact hL.fresh c h1
    · cases h1; exact .inr (Nat.le_trans hL.size hb)
  · intro c hcm
    rcases List.mem_or_eq_of_mem_set hcm with h1 | h1
    · exact .inl h1
    · cases h1; exact .inr hb
/-- A block that a call has made is taken over. -/
theorem Loc.adopt (hL : Loc X B w0 w O C) {ob : Option Nat} {c : Cont} (hE : Ext w w') (hb : FreshB w ob) (hc : OwnC w' ob c) :
    Loc X B w0 w' (ob :: O) (c :: C) ∧ Step O (ob :: O) w w' := by
  have hL' := hL.ext hE
  refine ⟨⟨hL'.os, hL'.tape, hL'.output, hL'.size, hL'.keep, ⟨hc, hL'.own⟩, ?_, ?_, hL.apart, hL.bok⟩, ⟨fun k hk _ => hE.block k hk, ?_⟩⟩
  · intro c hcm
    rcases List.mem_cons.1 hcm with h1 | h1
    · exact .inr (Nat.le_trans hL.size (hb c h1.symm))
    · exact hL.fresh c h1
  · cases ob with
    | none => exact hL.dist
    | some b => exact ⟨fun h => by have := hL.own.lt b h; have := hb b rfl; omega, hL.dist⟩
  · intro c hcm
    rcases List.mem_cons.1 hcm with h1 | h1
    · exact .inr (hb c h1.symm)
    · exact .inl h1
/-- nil is owned by everybody. -/
theorem Loc.addNil (hL : Loc X B w0 w O C) : Loc X B w0 w (none :: O) (.cells [] :: C) ∧ Step O (none :: O) w w := by
  refine ⟨⟨hL.os, hL.tape, hL.output, hL.size, hL.keep, ⟨rfl, hL.own⟩, fun b hb => ?_, hL.dist, hL.apart, hL.bok⟩, ⟨fun _ _ _ => rfl, fun b hb => ?_⟩⟩
  · rcases List.mem_cons.1 hb with h | h
    · cases h
    · exact hL.fresh b h
  · rcases List.mem_cons.1 hb with h | h
    · cases h
    · exact .inl h

theorem Loc.frozenA (hL : Loc X B w0 w O C) (hX : X = []) (i : Nat) {b : Nat} {cs : List Value} (hb : O[i]? = some (some b)) (hc : C[i]? = some (.cells cs)) : ∀ A, Bok A w0 → At (view (O.eraseIdx i ++ A) w) b 0 cs := by
  subst hX
  intro A hA
  obtain ⟨t, lo, hi, h1, h2⟩ := hL.at i hb hc
  intro j hj
  have hge : w0.heap.size ≤ b := by
    rcases hL.fresh b (List.mem_of_getElem? hb) with h | h
    · cases h
    · exact h
  have hv : view (O.eraseIdx i ++ A) w b = some (.cells cs.toArray t (lo, hi)) := by
    refine view_mk h1 ?_
    rw [List.mem_append, not_or]
    exact ⟨hL.dist.not_mem_erase hb, fun h => by have := hA b h; omega⟩
  simp [cellH, hv]
/-- An owned row of integers, only read from here on. -/
theorem Loc.intsA (hL : Loc X B w0 w O C) (hX : X = []) (i : Nat) {ob : Option Nat} {k : IntKind} {cap : Nat} {xs : List Nat} {sp : List Value} (hb : O[i]? = some ob) (hc : C[i]? = some (.cells (ints k xs ++ sp))) (hcap : (ints k xs ++ sp).length = cap) :
    ∀ A, Bok A w0 → Ints k (view (O.eraseIdx i ++ A) w) (sv ob xs.length cap) xs := by
  intro A hA
  cases ob with
  | none =>
    have h := hL.at i hb hc
    have h0 : ints k xs ++ sp = [] := h
    have hx : xs = [] := by
      have := congrArg List.length h0
      simp [ints_length] at this
      exact this.1
    subst hx
    exact Ints.nil
  | some b =>
    have h := hL.frozenA hX i hb hc A hA
    refine Ints.of_at (fun j hj => ?_) (by rw [← hcap]; simp [ints_length])
    rw [h j (by simp at hj ⊢; omega), List.getElem?_append_left hj]
end

/-! ## Making slices -/
section
variable {P : Program} {ty : TypeId} {ρ : Operand → Value} {w : World} {R : Value → World → Prop} {X B : List (Option Nat)} {w0 : World} {O : List (Option Nat)} {C : List Cont}

theorem madeCells_one (z : Value) (n : Nat) : (madeCells #[z] n).toList = List.replicate n z := by
  apply List.ext_getElem?
  intro i
  simp only [madeCells, Array.toList_map, List.getElem?_map, Array.toList_range]
  by_cases h : i < n
  · simp [h, Nat.mod_one]
  · simp [h]
/-- 'make([]T, n)' of one-cell elements. -/
theorem OpY.make {t el : TypeId} {a c : Operand} {k k' : IntKind} {n by' : Nat} {z : Value} (hu : P.underlying t = some (.slice el)) (ti : TI P el 1 by' z) (hz : z.cells = #[z]) (ha : ρ a = .int k (n : Nat)) (hc : ρ c = .int k' (n : Nat))
    (hb : by' * n ≤ 281474976710656) (hn : n ≤ 9223372036854775807) (hL : Loc X B w0 w O C)
    (h : ∀ b w', Loc X B w0 w' (some b :: O) (.cells (List.replicate n z) :: C) → Step O (some b :: O) w w' → R (.slice (some ⟨b, 0, none⟩) n n) w') : OpY P (.makeSlice t a c) ty ρ w R := by
  obtain ⟨i, hi, hs, hby, hzz⟩ := ti
  have hb' : (i.bytes : Int) * (n : Int) ≤ 281474976710656 := by
    subst hby
    have : ((i.bytes * n : Nat) : Int) ≤ 281474976710656 := by omega
    rwa [Int.natCast_mul] at this
  have hr := run_make (P := P) w t el i z hu hi hzz k k' (n : Int) (n : Int) (by omega) (by omega) hb' (by omega)
  have hal := hL.alloc (o := .cells (madeCells z.cells n) el) (c := .cells (List.replicate n z)) (by rw [hz, ← madeCells_one]; exact ownC_alloc w _ el)
  simp only [Int.toNat_natCast, hs, Nat.mul_one] at hr
  simp only [OpY, bareOp, execOp, ha, hc]
  simp [hr, upon]
  exact h _ _ hal.1 hal.2

theorem setsFold (cs : Array Value) (v : Value) (off : Nat) (hv : v.oneCell' = true) (ho : off < cs.size) : v.cells.zipIdx.foldl (fun cs (c, j) => cs.setIfInBounds (off + j) c) cs = cs.setIfInBounds off v := by
  have : v.cells = #[v] := by cases v <;> first | rfl | (simp [Value.oneCell'] at hv)
  rw [this]; simp
/-- '[]T{}' -/
theorem OpY.buildSlice0 {t el : TypeId} {sz by' : Nat} {z : Value} (hu : P.underlying t = some (.slice el)) (ti : TI P el sz by' z) (hL : Loc X B w0 w O C)
    (h : ∀ b w', Loc X B w0 w' (some b :: O) (.cells [] :: C) → Step O (some b :: O) w w' → R (.slice (some ⟨b, 0, none⟩) 0 0) w') : OpY P (.buildSlice t 0 #[]) ty ρ w R := by
  obtain ⟨i, hi, hs, hby, hzz⟩ := ti
  have hal := hL.alloc (o := .cells #[] el) (c := .cells []) (ownC_alloc w #[] el)
  simp only [OpY, bareOp, execOp]
  simp [Instr.buildSlice, run_underlying hu, sizeOf, typeInfo, hi, Instr.fill, newRow, upon, Array.range_zero']
  exact h _ _ hal.1 hal.2
/-- '[]T{x, y, ..}', all places given in order: the cells one behind the other. -/
theorem OpY.buildSlice {t el : TypeId} {n : Nat} {parts : List (Nat × Operand)} {sz by' : Nat} {z : Value} {cs : List Value} (hu : P.underlying t = some (.slice el)) (ti : TI P el sz by' z) (hn : n * sz ≤ 16777216)
    (hf : Instr.fill (fun i => some (i * sz, sz)) ((Array.range (n * sz)).map (z.cells[· % z.cells.size]!)) ((parts.map fun p => (p.1, ρ p.2))) = some cs.toArray) (h0 : 0 < n * sz) (hL : Loc X B w0 w O C)
    (h : ∀ b w', Loc X B w0 w' (some b :: O) (.cells cs :: C) → Step O (some b :: O) w w' → R (.slice (some ⟨b, 0, none⟩) n n) w') : OpY P (.buildSlice t n parts.toArray) ty ρ w R := by
  obtain ⟨i, hi, hs, hby, hzz⟩ := ti
  have hal := hL.alloc (o := .cells cs.toArray el) (c := .cells cs) (by simpa using ownC_alloc w cs.toArray el)
  have h1 : ¬ (16777216 < n * sz) := by omega
  have h2 : ¬ (n * sz = 0) := by omega
  have hr : (Instr.buildSlice t n ((parts.toArray.map fun (x : Nat × Operand) => (x.1, ρ x.2)))).run P w = .ok (.slice (some ⟨w.heap.size, 0, none⟩) n n) (w.alloc (.cells cs.toArray el)) := by
    have hf' : Instr.fill (fun i => some (i * sz, sz)) ((Array.range (n * sz)).map (z.cells[· % z.cells.size]!)) ((parts.toArray.map fun (x : Nat × Operand) => (x.1, ρ x.2))).toList = some cs.toArray := by
      simpa using hf
    simp only [Instr.buildSlice, Sem.run_bind, run_underlying hu, Result.andThen_ok, sizeOf, typeInfo, run_program, hi, Sem.run_pure, hs]
    simp only [gt_iff_lt, show (2 : Nat) ^ 24 = 16777216 from rfl, h1, if_false, h2, zeroValue, typeInfo, Sem.run_bind, run_program, Result.andThen_ok, hi, Sem.run_pure, hzz, hf', newRow, run_newObj]
    rfl
  simp only [OpY, bareOp, execOp]
  simp only [Sem.run_bind, hr, Result.andThen_ok, Sem.run_pure, upon]
  exact h _ _ hal.1 hal.2
end
end Go.X
