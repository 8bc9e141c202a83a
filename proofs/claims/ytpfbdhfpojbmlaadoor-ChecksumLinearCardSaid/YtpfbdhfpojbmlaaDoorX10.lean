/-
  Arrays behind pointers, a text's byte, small things. Plain theorems over any program.
-/
import Derived.Test.YtpfbdhfpojbmlaaDoorX9
set_option linter.unusedSimpArgs false
set_option linter.unusedVariables false
namespace Go.X
open Go Go.RowKit

/-- '[]T{x, y, ..}': the places, filled in order. -/
theorem zipfold : ∀ (cs A : List Value) (off k : Nat), (cs.zipIdx k).foldl (fun (a : Array Value) p => a.setIfInBounds (off + p.2) p.1) A.toArray = (putAt A (off + k) cs).toArray
  | [], A, off, k => rfl
  | v :: r, A, off, k => by
    simp only [List.zipIdx_cons, List.foldl_cons, putAt, List.setIfInBounds_toArray]
    rw [zipfold r (A.set (off + k) v) off (k + 1), Nat.add_assoc]
def numbered : Nat → List Value → List (Nat × Value)
  | _, [] => []
  | k, v :: r => (k, v) :: numbered (k + 1) r
def cellsAre (sz : Nat) : List Value → List (List Value) → Prop
  | [], [] => True
  | v :: r, c :: cs => v.cells = c.toArray ∧ c.length = sz ∧ cellsAre sz r cs
  | _, _ => False
theorem fill_run {sz : Nat} : ∀ (vs : List Value) (css : List (List Value)) (k : Nat) (pre post : List Value), pre.length = k * sz → post.length = vs.length * sz → cellsAre sz vs css →
    Instr.fill (fun i => some (i * sz, sz)) (pre ++ post).toArray (numbered k vs) = some (pre ++ css.flatten).toArray
  | [], [], k, pre, post, h1, h2, _ => by
    have : post = [] := List.eq_nil_of_length_eq_zero (by simpa using h2)
    subst this; simp [numbered, Instr.fill]
  | v :: r, c :: cs, k, pre, post, h1, h2, h3 => by
    obtain ⟨g1, g2, g3⟩ := h3
    have hl : sz ≤ post.length := by rw [h2, List.length_cons, Nat.add_mul]; omega
    have hf := zipfold c (pre ++ post) (k * sz) 0
    rw [Nat.add_zero] at hf
    have hp : putAt (pre ++ post) (k * sz) c = (pre ++ c) ++ post.drop sz := by
      rw [← h1, putAt_append pre post c (by omega), g2]
    have ih := fill_run r cs (k + 1) (pre ++ c) (post.drop sz) (by simp [h1, g2, Nat.add_mul]) (by simp [h2, Nat.add_mul]) g3
    simp only [numbered, Instr.fill]
    have h5 : ¬ (v.cells.size ≠ sz ∨ (pre ++ post).toArray.size < k * sz + v.cells.size) := by
      rw [g1]; simp [g2, h1]; omega
    rw [if_neg (by simpa using h5)]
    have h6 : v.cells.zipIdx.foldl (fun (cs : Array Value) (x : Value × Nat) => cs.setIfInBounds (k * sz + x.2) x.1) (pre ++ post).toArray = ((pre ++ c) ++ post.drop sz).toArray := by
      rw [g1, ← hp, ← hf]
      rw [← Array.foldl_toList]; simp
    rw [h6, ih]
    simp
  | [], _ :: _, _, _, _, _, _, h => h.elim
  | _ :: _, [], _, _, _, _, _, h => h.elim

section
variable {P : Program} {ty : TypeId} {ρ : Operand → Value} {w : World} {R : Value → World → Prop} {X B : List (Option Nat)} {w0 : World} {O : List (Option Nat)} {C : List Cont}
theorem OpY.buildSliceV {t el : TypeId} {n : Nat} {parts : List (Nat × Operand)} {sz by' : Nat} {z : Value} {vs : List Value} {css : List (List Value)} (hu : P.underlying t = some (.slice el)) (ti : TI P el sz by' z) (hn : n * sz ≤ 16777216)
    (hp : (parts.map fun p => (p.1, ρ p.2)) = numbered 0 vs) (hvs : vs.length = n) (hc : cellsAre sz vs css) (h0 : 0 < n * sz) (hL : Loc X B w0 w O C)
    (h : ∀ b w', Loc X B w0 w' (some b :: O) (.cells css.flatten :: C) → Step O (some b :: O) w w' → R (.slice (some ⟨b, 0, none⟩) n n) w') : OpY P (.buildSlice t n parts.toArray) ty ρ w R := by
  refine OpY.buildSlice hu ti hn ?_ h0 hL h
  have := fill_run (sz := sz) vs css 0 [] ((Array.range (n * sz)).map (z.cells[· % z.cells.size]!)).toList (by simp) (by simp [hvs]) hc
  rw [hp]
  rw [List.nil_append, List.nil_append, Array.toArray_toList] at this
  exact this
theorem OpY.indexAddr_arr {t el : TypeId} {x y : Operand} {b o n i q : Nat} {k : IntKind} {sz by' : Nat} {z : Value} (hu : P.underlying t = some (.array n el)) (ti : TI P el sz by' z) (hx : ρ x = .pointer (some ⟨b, o, none⟩)) (hy : ρ y = .int k ((i : Nat) : Int)) (hlt : i < n) (hq : o + i * sz = q)
    (h : R (.pointer (some ⟨b, q, none⟩)) w) : OpY P (.indexAddr t x y) ty ρ w R := by
  obtain ⟨inf, hi, hz, _, _⟩ := ti
  subst hq
  have h2 : (i : Int) < n := by omega
  simp only [OpY, bareOp, execOp, hx, hy]
  simp [Instr.indexAt, Instr.sureAddr, run_underlying hu, asIntOf, h2, hlt, sizeOf, typeInfo, hi, hz, upon, add_plain]
  exact h
theorem OpY.slice_arr {t el : TypeId} {x : Operand} {lo hi : Option Operand} {sz by' l h b o n : Nat} {z : Value} (hu : P.underlying t = some (.array n el)) (ti : TI P el sz by' z)
    (hx : ρ x = .pointer (some ⟨b, o, none⟩)) (hlo : (lo = none ∧ l = 0) ∨ ∃ k y, lo = some y ∧ ρ y = .int k ((l : Nat) : Int)) (hhi : (hi = none ∧ h = n) ∨ ∃ k y, hi = some y ∧ ρ y = .int k ((h : Nat) : Int)) (h1 : l ≤ h) (h2 : h ≤ n) (hlt : l < n)
    (hk : R (.slice (some ⟨b, o + l * sz, none⟩) (h - l) (n - l)) w) : OpY P (.slice t x lo hi none) ty ρ w R := by
  obtain ⟨inf, hi', hs, _, _⟩ := ti
  subst hs
  have g1 : (l : Int) ≤ (h : Int) := by omega
  have g2 : (h : Int) ≤ (n : Int) := by omega
  have hne : ¬ n = l := by omega
  have b1 : ∀ k, (Instr.sliceBound (.int k ((h : Nat) : Int)) n .sliceAlen).run P w = .ok h w := by
    intro k; simp [Instr.sliceBound, asIntOf, g2, h2]
  have b2 : ∀ k, (Instr.sliceBound (.int k ((l : Nat) : Int)) h .sliceB).run P w = .ok l w := by
    intro k; simp [Instr.sliceBound, asIntOf, g1, h1]
  have hr : (Instr.sliceAt t (.pointer (some ⟨b, o, none⟩)) (lo.map ρ) (hi.map ρ) none).run P w = .ok (.slice (some ⟨b, o + l * inf.size, none⟩) (h - l) (n - l)) w := by
    rcases hlo with ⟨rfl, rfl⟩ | ⟨k, y, rfl, hy⟩ <;> rcases hhi with ⟨rfl, rfl⟩ | ⟨k', y', rfl, hy'⟩ <;>
      simp [Instr.sliceAt, Instr.sureAddr, run_underlying hu, Instr.sliceBounds, b1, b2, sizeOf, typeInfo, hi', hne, add_plain, *]
  simp only [OpY, bareOp, execOp, hx]
  simp only [Option.map_none, Sem.run_bind, hr, Result.andThen_ok, Sem.run_pure, upon]
  exact hk
theorem OpY.strIndexD {t : TypeId} {x y : Operand} {xs : List Nat} {i : Nat} {k : IntKind} (hu : P.underlying t = some .string) (hx : ρ x = .string (str xs)) (hy : ρ y = .int k ((i : Nat) : Int)) (hb : bytesOk xs) (hi : i < xs.length) (hk : R (.int .u8 ((xs.getD i 0 : Nat) : Int)) w) : OpY P (.index t x y) ty ρ w R :=
  OpY.strIndex hu hx hy hb hi (by rw [List.getD_eq_getElem?_getD, List.getElem?_eq_getElem hi] at hk; exact hk)
/-- the bytes of an owned row, as a text -/
theorem OpY.ownToStr {s t el : TypeId} {x : Operand} {b o n cap i : Nat} {xs ys : List Nat} {sp : List Value} (hs : P.underlying s = some (.slice el)) (he : P.underlying el = some (.int .u8)) (ht : P.underlying t = some .string) (hx : ρ x = .slice (some ⟨b, o, none⟩) n cap)
    (hL : Loc X B w0 w O C) (hb : O[i]? = some (some b)) (hc : C[i]? = some (.cells (ints .u8 xs ++ sp))) (hn : n = ys.length) (hy : (xs.drop o).take ys.length = ys) (hcap : ys.length ≤ cap) (h : R (.string (str ys)) w) : OpY P (.convert s t x) ty ρ w R :=
  OpY.bytesToStr hs he ht hx (hL.intsO i hb hc hn hy hcap) h
end
section
variable {P : Program} {ty : TypeId} {ρ : Operand → Value} {w : World} {R : Value → World → Prop} {X B : List (Option Nat)} {w0 : World} {O : List (Option Nat)} {C : List Cont}
theorem set_same {α : Type} {C : List α} {i : Nat} {c : α} (h : C[i]? = some c) : C.set i c = C := by
  refine List.ext_getElem? fun j => ?_
  rw [List.getElem?_set]
  by_cases e : i = j
  · subst e; rw [if_pos rfl, h, if_pos]; exact (List.getElem?_eq_some_iff.1 h).1
  · rw [if_neg e]
/-- A row of bytes given the same slice type anew: the model marks the row as one that a string may share. -/
theorem OpY.convSame {t el : TypeId} {x : Operand} {b o n cap i : Nat} {cs : List Value} (hs : P.underlying t = some (.slice el)) (he : P.underlying el = some (.int .u8)) (hx : ρ x = .slice (some ⟨b, o, none⟩) n cap)
    (hL : Loc X B w0 w O C) (hb : O[i]? = some (some b)) (hc : C[i]? = some (.cells cs)) (h : ∀ w', Loc X B w0 w' O C → Step O O w w' → R (.slice (some ⟨b, o, none⟩) n cap) w') : OpY P (.convert t t x) ty ρ w R := by
  obtain ⟨tt, lo, hi, h1, h2, h3⟩ := hL.at i hb hc
  have hp := hL.put (w' := w.freeze ⟨b, cs.length, none⟩ 1) i hb (c' := .cells cs)
    ⟨tt, if lo = hi then cs.length else min lo cs.length, if lo = hi then cs.length + 1 else max hi (cs.length + 1), by
      obtain ⟨hlt, _⟩ := Array.getElem?_eq_some_iff.1 h1
      simp only [World.freeze, Nat.add_one_ne_zero, if_false, ↓reduceIte, Array.getElem?_modify, h1, Option.map_some]
      by_cases e : lo = hi <;> simp [e], by split <;> omega, fun j hj => by
      have := h3 lo
      split <;> omega⟩ (fun k hk => by simp [World.freeze, Array.getElem?_modify, Ne.symm hk]) (by simp [World.freeze]) rfl rfl rfl
  rw [set_same hc] at hp
  have hsh : w.shape? b = some (tt, cs.length) := by simp [World.shape?, h1]
  simp only [OpY, bareOp, execOp, hx]
  simp [convert, run_underlying hs, run_underlying he, markStringish, Go.shape, Go.freeze, upon, Sem.run, hsh, Result.andThen]
  exact h _ hp.1 hp.2
end
theorem Loc.intsB {X B : List (Option Nat)} {w0 w : World} {O : List (Option Nat)} {C : List Cont} (hL : Loc X B w0 w O C) (hX : X = []) (i : Nat) {ob : Option Nat} {k : IntKind} {n cap : Nat} {xs : List Nat} {sp : List Value} (hb : O[i]? = some ob) (hc : C[i]? = some (.cells (ints k xs ++ sp))) (hcap : (ints k xs ++ sp).length = cap * 1) (hn : n = xs.length) :
    ∀ A, Bok A w0 → Ints k (view (O.eraseIdx i ++ A) w) (sv ob n cap) xs := by
  subst hn; exact hL.intsA hX i hb hc (by rw [hcap, Nat.mul_one])
instance (xs : List Nat) : Decidable (bytesOk xs) := inferInstanceAs (Decidable (∀ x ∈ xs, x < 256))
end Go.X
