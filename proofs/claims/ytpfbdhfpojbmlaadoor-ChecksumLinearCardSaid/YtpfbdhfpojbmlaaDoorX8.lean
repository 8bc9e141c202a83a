/-
  Rows of integers that a function owns: reading, writing; what is handed on at the end. Plain theorems over any program.
-/
import Derived.Test.YtpfbdhfpojbmlaaDoorX7
set_option linter.unusedSimpArgs false
set_option linter.unusedVariables false
namespace Go.X
open Go Go.RowKit

theorem view_tail (O A : List (Option Nat)) (w : World) : Le (view (O ++ A) w) (view A w) := by
  intro b o hb
  have h := view_out hb
  rw [List.mem_append, not_or] at h
  exact view_mk (view_some hb) h.2
theorem wneg_u64 {x : Nat} (h : x < 18446744073709551616) : IntKind.u64.wrap (0 - (x : Int)) = (((18446744073709551616 - x) % 18446744073709551616 : Nat) : Int) := by
  simp [IntKind.wrap, IntKind.signed, IntKind.bits]; omega

section
variable {P : Program} {ty : TypeId} {ρ : Operand → Value} {w : World} {R : Value → World → Prop} {X B : List (Option Nat)} {w0 : World} {O : List (Option Nat)} {C : List Cont}

theorem OpY.load_ints {t : TypeId} {x : Operand} {d : TypeDesc} {k : IntKind} {b j : Nat} {xs : List Nat} {sp : List Value} (hd : P.underlying t = some d) (hg : aggD d = false) (hx : ρ x = .pointer (some ⟨b, j, none⟩)) (hL : Loc X B w0 w O C) (i : Nat)
    (hO : O[i]? = some (some b)) (hC : C[i]? = some (.cells (ints k xs ++ sp))) (hj : j < xs.length) (h : R (.int k ((xs[j] : Nat) : Int)) w) : OpY P (.load t x) ty ρ w R :=
  OpY.load_own hd hg hx hL i hO hC (by rw [List.getElem?_append_left (by rw [ints_length]; exact hj), ints_get hj]) h
theorem OpY.load_intsD {t : TypeId} {x : Operand} {d : TypeDesc} {k : IntKind} {b j : Nat} {xs : List Nat} {sp : List Value} (hd : P.underlying t = some d) (hg : aggD d = false) (hx : ρ x = .pointer (some ⟨b, j, none⟩)) (hL : Loc X B w0 w O C) (i : Nat)
    (hO : O[i]? = some (some b)) (hC : C[i]? = some (.cells (ints k xs ++ sp))) (hj : j < xs.length) (h : R (.int k ((xs.getD j 0 : Nat) : Int)) w) : OpY P (.load t x) ty ρ w R :=
  OpY.load_ints hd hg hx hL i hO hC hj (by rw [List.getD_eq_getElem?_getD, List.getElem?_eq_getElem hj] at h; exact h)
theorem OpY.store_ints {t : TypeId} {x y : Operand} {k : IntKind} {b j v : Nat} {xs : List Nat} {sp : List Value} {by' : Nat} {z : Value} (ti : TI P t 1 by' z) (hx : ρ x = .pointer (some ⟨b, j, none⟩)) (hy : ρ y = .int k ((v : Nat) : Int))
    (hL : Loc X B w0 w O C) (i : Nat) (hO : O[i]? = some (some b)) (hC : C[i]? = some (.cells (ints k xs ++ sp))) (hj : j < xs.length)
    (h : ∀ w', Loc X B w0 w' O (C.set i (.cells (ints k (xs.set j v) ++ sp))) → Step O O w w' → R undef w') : OpY P (.store t x y) ty ρ w R := by
  have hp : putAt (ints k xs ++ sp) j [.int k ((v : Nat) : Int)] = ints k (xs.set j v) ++ sp := by
    simp only [putAt]
    rw [List.set_append_left _ _ (by rw [ints_length]; exact hj), ints_set]
  refine OpY.store (vs := [.int k ((v : Nat) : Int)]) ti hx hy rfl rfl rfl hL i hO hC (by simp [ints_length]; omega) ?_
  rw [hp]
  exact h

/-- What is owned, read only by somebody else for a while: the row, in a view that leaves out all else that is owned. -/
theorem Loc.intsO (hL : Loc X B w0 w O C) (i : Nat) {b : Nat} {k : IntKind} {o n cap : Nat} {xs ys : List Nat} {sp : List Value} (hb : O[i]? = some (some b)) (hc : C[i]? = some (.cells (ints k xs ++ sp))) (hn : n = ys.length) (hy : (xs.drop o).take ys.length = ys) (hcap : ys.length ≤ cap) :
    Ints k (view (O.eraseIdx i ++ B) w) (.slice (some ⟨b, o, none⟩) n cap) ys := by
  subst hn
  have h := hL.frozen i hb hc
  refine Ints.of_at (fun j hj => ?_) hcap
  rw [ints_length] at hj
  have hlt : o + j < xs.length := by
    have := congrArg List.length hy
    simp at this; omega
  have := h (o + j) (by simp [ints_length]; omega)
  rw [Nat.zero_add] at this
  rw [this, List.getElem?_append_left (by rw [ints_length]; exact hlt), ints_get hlt, ints_get hj]
  congr 2
  have h2 : ys[j]? = xs[o + j]? := by
    conv => lhs; rw [← hy]
    rw [List.getElem?_take, if_pos hj, List.getElem?_drop]
  rw [List.getElem?_eq_getElem hj, List.getElem?_eq_getElem hlt] at h2
  rw [Option.some.inj h2]
theorem view_sub {O O' A : List (Option Nat)} (h : ∀ b, b ∈ O' → b ∈ O) : Le (view (O ++ A) w) (view (O' ++ A) w) := by
  intro b o hb
  have hn := view_out hb
  rw [List.mem_append, not_or] at hn
  refine view_mk (view_some hb) ?_
  rw [List.mem_append, not_or]
  exact ⟨fun hm => hn.1 (h _ hm), hn.2⟩
theorem Bok.sub {O O' A : List (Option Nat)} (hB : Bok (O ++ A) w) (h : ∀ b, b ∈ O' → b ∈ O) : Bok (O' ++ A) w := by
  intro b hb
  rcases List.mem_append.1 hb with h1 | h1
  · exact hB b (List.mem_append_left _ (h _ h1))
  · exact hB b (List.mem_append_right _ h1)
end

/-- A slice that a function hands on as its caller's own. -/
def HandsInts (k : IntKind) (w w' : World) (r : Value) (xs : List Nat) : Prop :=
  ∃ ob cap sp, r = sv ob xs.length cap ∧ FreshB w ob ∧ OwnC w' ob (.cells (ints k xs ++ sp)) ∧ (ints k xs ++ sp).length = cap
theorem Loc.hands {B : List (Option Nat)} {w0 w : World} {O : List (Option Nat)} {C : List Cont} (hL : Loc [] B w0 w O C) (i : Nat) {ob : Option Nat} {k : IntKind} {cap n : Nat} {xs : List Nat} {sp : List Value} (hb : O[i]? = some ob) (hc : C[i]? = some (.cells (ints k xs ++ sp))) (hn : n = xs.length) (hcap : (ints k xs ++ sp).length = cap) :
    HandsInts k w0 w (sv ob n cap) xs := by
  subst hn
  refine ⟨ob, cap, sp, rfl, fun b hbb => ?_, hL.at i hb hc, hcap⟩
  subst hbb
  rcases hL.fresh b (List.mem_of_getElem? hb) with h | h
  · cases h
  · exact h
/-- The caller that only reads it. -/
theorem HandsInts.fr {k : IntKind} {w w' : World} {r : Value} {xs : List Nat} (h : HandsInts k w w' r xs) : Fr w w' (fun H => Ints k H r xs) := by
  obtain ⟨ob, cap, sp, rfl, hf, ho, hcap⟩ := h
  intro A hA
  cases ob with
  | none =>
    have h0 : ints k xs ++ sp = [] := ho
    have hx : xs = [] := by
      have := congrArg List.length h0
      simp [ints_length] at this
      exact this.1
    subst hx; exact Ints.nil
  | some b =>
    obtain ⟨t, lo, hi, h1, h2⟩ := ho
    have hv : view A w' b = some (.cells (ints k xs ++ sp).toArray t (lo, hi)) := view_mk h1 (fun hm => by have := hA b hm; have := hf b rfl; omega)
    refine Ints.of_at (fun j hj => ?_) (by rw [← hcap]; simp [ints_length])
    simp only [cellH, hv, Nat.zero_add]
    rw [ints_length] at hj
    simp [List.getElem?_append_left (show j < (ints k xs).length by rw [ints_length]; exact hj), ints_get hj]
theorem Ints.elem {k : IntKind} {xs : List Nat} {i : Nat} {hi : i < xs.length} {vs : List Value} (h : vs = [.int k ((xs[i] : Nat) : Int)]) : vs = [.int k ((xs.getD i 0 : Nat) : Int)] := by
  rw [h, List.getD_eq_getElem?_getD, List.getElem?_eq_getElem hi]; rfl
theorem getD_lt {xs : List Nat} {L : Nat} (h : ∀ x ∈ xs, x < L) (h0 : 0 < L) (i : Nat) : xs.getD i 0 < L := by
  rw [List.getD_eq_getElem?_getD]
  cases hx : xs[i]? with
  | none => exact h0
  | some x => exact h x (List.mem_of_getElem? hx)
theorem foldl_take_succ {α : Type} (f : α → Nat → α) (a : α) (xs : List Nat) (k : Nat) (h : k < xs.length) : (xs.take (k + 1)).foldl f a = f ((xs.take k).foldl f a) (xs.getD k 0) := by
  rw [List.take_succ_eq_append_getElem h, List.foldl_append, List.getD_eq_getElem?_getD, List.getElem?_eq_getElem h]; rfl
theorem ok_take {xs : List Nat} {L n : Nat} (h : ∀ x ∈ xs, x < L) : ∀ x ∈ xs.take n, x < L := fun x hx => h x (List.mem_of_mem_take hx)
theorem ok_drop {xs : List Nat} {L n : Nat} (h : ∀ x ∈ xs, x < L) : ∀ x ∈ xs.drop n, x < L := fun x hx => h x (List.mem_of_mem_drop hx)
theorem ok_append {xs ys : List Nat} {L : Nat} (h : ∀ x ∈ xs, x < L) (h' : ∀ x ∈ ys, x < L) : ∀ x ∈ xs ++ ys, x < L := fun x hx => (List.mem_append.1 hx).elim (h x) (h' x)
theorem take_set_succ {α : Type} {xs ys : List α} {k : Nat} {v : α} (h : xs.take k = ys.take k) (hx : k < xs.length) (hy : ys[k]? = some v) : (xs.set k v).take (k + 1) = ys.take (k + 1) := by
  rw [List.take_add_one, List.take_add_one, hy, List.getElem?_set_self hx, List.take_set_of_le (Nat.le_refl k), h]
theorem Loc.intsN {X B : List (Option Nat)} {w0 w : World} {O : List (Option Nat)} {C : List Cont} (hL : Loc X B w0 w O C) (hX : X = []) (i : Nat) {ob : Option Nat} {k : IntKind} {n cap : Nat} {xs : List Nat} {sp : List Value} (hb : O[i]? = some ob) (hc : C[i]? = some (.cells (ints k xs ++ sp))) (hn : n = xs.length) (hcap : (ints k xs ++ sp).length = cap) :
    ∀ A, Bok A w0 → Ints k (view A w) (sv ob n cap) xs := by
  subst hn
  exact fun A hA => (hL.intsA hX i hb hc hcap A hA).mono (view_tail _ _ _)
theorem own_cells {w : World} {b : Nat} {vs : List Value} (h : OwnC w (some b) (.cells vs)) {o : Nat} (ho : o = 0) : ∀ j v, vs[j]? = some v → w.cell? ((⟨b, o, none⟩ : Addr).add j) = some v := by
  intro j v hj
  subst ho
  rw [add_plain, Nat.zero_add]
  exact cell_own h hj
section
variable {P : Program} {ty : TypeId} {ρ : Operand → Value} {w : World} {R : Value → World → Prop}
theorem OpY.len_strx {x : Operand} {t : TypeId} {xs : List Nat} (hu : P.underlying t = some .string) (hx : ρ x = .string (str xs)) (h : R (.int .i64 ((xs.length : Nat) : Int)) w) :
    OpY P (.call { callee := .builtin .len, args := #[x], argTypes := #[t] }) ty ρ w R := OpY.len_str hu hx (by rw [str_size]; exact h)
theorem OpY.len_sv {x : Operand} {t el : TypeId} {ob : Option Nat} {n cap : Nat} (hu : P.underlying t = some (.slice el)) (hx : ρ x = sv ob n cap) (hn : ob = none → n = 0) (h : R (.int .i64 ((n : Nat) : Int)) w) :
    OpY P (.call { callee := .builtin .len, args := #[x], argTypes := #[t] }) ty ρ w R := by
  cases ob with
  | none => exact OpY.len_slice hu hx (by have := hn rfl; subst this; exact h)
  | some b => exact OpY.len_slice hu hx h
theorem bytesOk_append {xs ys : List Nat} (h1 : bytesOk xs) (h2 : bytesOk ys) : bytesOk (xs ++ ys) := fun x hx => (List.mem_append.1 hx).elim (h1 x) (h2 x)
end
end Go.X
