/-
  Memory: partial heaps ('view'), what a function owns ('Loc'), and how worlds follow one another.
-/
import Derived.Test.YtpfbdhfpojbmlaaDoorX1
set_option linter.unusedSimpArgs false
set_option linter.unusedVariables false
namespace Go.X
open Go Go.RowKit

abbrev Hp := Nat → Option Obj
def Le (H H' : Hp) : Prop := ∀ b o, H b = some o → H' b = some o
theorem Le.refl (H : Hp) : Le H H := fun _ _ h => h
theorem Le.trans {H H' H'' : Hp} (h : Le H H') (h' : Le H' H'') : Le H H'' := fun b o hb => h' b o (h b o hb)

/-- The heap without the blocks of a list. -/
def view (A : List (Option Nat)) (w : World) : Hp := fun b => if some b ∈ A then none else w.heap[b]?
theorem view_some {A : List (Option Nat)} {w : World} {b : Nat} {o : Obj} (h : view A w b = some o) : w.heap[b]? = some o := by
  unfold view at h; split at h
  · cases h
  · exact h
theorem view_out {A : List (Option Nat)} {w : World} {b : Nat} {o : Obj} (h : view A w b = some o) : some b ∉ A := by
  unfold view at h; split at h
  · cases h
  · assumption
theorem view_mk {A : List (Option Nat)} {w : World} {b : Nat} {o : Obj} (h : w.heap[b]? = some o) (hn : some b ∉ A) : view A w b = some o := by
  unfold view; rw [if_neg hn]; exact h

def cellH (H : Hp) (b o : Nat) : Option Value :=
  match H b with
  | some (.cells c _ _) => c[o]?
  | _ => none
theorem cellH_le {H H' : Hp} (h : Le H H') {b o : Nat} {v : Value} (hc : cellH H b o = some v) : cellH H' b o = some v := by
  unfold cellH at *
  cases hb : H b with
  | none => rw [hb] at hc; cases hc
  | some x => rw [hb] at hc; rw [h b x hb]; exact hc
theorem cellH_view {A : List (Option Nat)} {w : World} {b o : Nat} {v : Value} (h : cellH (view A w) b o = some v) : w.cell? ⟨b, o, none⟩ = some v := by
  unfold cellH at h
  cases hb : view A w b with
  | none => rw [hb] at h; cases h
  | some x =>
    rw [hb] at h
    unfold World.cell?
    rw [view_some hb]
    cases x <;> first | exact h | cases h

def At (H : Hp) (b o : Nat) (vs : List Value) : Prop := ∀ i, i < vs.length → cellH H b (o + i) = vs[i]?
theorem At.mono {H H' : Hp} (h : Le H H') {b o : Nat} {vs : List Value} (ha : At H b o vs) : At H' b o vs := by
  intro i hi
  have := ha i hi
  rw [List.getElem?_eq_getElem hi] at this ⊢
  exact cellH_le h this
theorem At.nil {H : Hp} {b o : Nat} : At H b o [] := fun i hi => by simp at hi
theorem At.get {H : Hp} {b o : Nat} {vs : List Value} (ha : At H b o vs) (i : Nat) {v : Value} (hv : vs[i]? = some v) : cellH H b (o + i) = some v := by
  have hi : i < vs.length := by
    rcases Nat.lt_or_ge i vs.length with h | h
    · exact h
    · rw [List.getElem?_eq_none h] at hv; cases hv
  rw [ha i hi, hv]
theorem At.part {H : Hp} {b o : Nat} {vs us : List Value} (ha : At H b o vs) (k : Nat) (h : (vs.drop k).take us.length = us) : At H b (o + k) us := by
  intro i hi
  have h1 : us[i]? = vs[k + i]? := by
    conv => lhs; rw [← h]
    rw [List.getElem?_take, if_pos hi, List.getElem?_drop]
  have h2 : k + i < vs.length := by
    rcases Nat.lt_or_ge (k + i) vs.length with h3 | h3
    · exact h3
    · rw [List.getElem?_eq_none h3, List.getElem?_eq_getElem hi] at h1; cases h1
  rw [h1, ← ha (k + i) h2, Nat.add_assoc]
theorem At.append {H : Hp} {b o : Nat} {vs us : List Value} (ha : At H b o vs) (hb : At H b (o + vs.length) us) : At H b o (vs ++ us) := by
  intro i hi
  by_cases h : i < vs.length
  · rw [List.getElem?_append_left h]; exact ha i h
  · rw [List.getElem?_append_right (by omega)]
    have := hb (i - vs.length) (by simp at hi; omega)
    rw [← this]; congr 1; omega

/-! ## Slices that are only read -/
/-- 'v' is a slice of elements of 'sz' cells each; the cells of the i-th stand for the i-th of 'xs' by R. -/
def Sl {α : Type} (sz : Nat) (R : Hp → List Value → α → Prop) (H : Hp) (v : Value) (xs : List α) : Prop :=
  ((∃ oa, v = .slice oa 0 0) ∧ xs = []) ∨
  ∃ b o cap, v = .slice (some ⟨b, o, none⟩) xs.length cap ∧ xs.length ≤ cap ∧ ∀ i x, xs[i]? = some x → ∃ vs, vs.length = sz ∧ At H b (o + i * sz) vs ∧ R H vs x
theorem Sl.mono {α : Type} {sz : Nat} {R : Hp → List Value → α → Prop} (hR : ∀ H H' vs x, Le H H' → R H vs x → R H' vs x) {H H' : Hp} (h : Le H H') {v : Value} {xs : List α} (hs : Sl sz R H v xs) : Sl sz R H' v xs := by
  rcases hs with hs | ⟨b, o, cap, hv, hc, hx⟩
  · exact .inl hs
  · refine .inr ⟨b, o, cap, hv, hc, fun i x hi => ?_⟩
    obtain ⟨vs, h1, h2, h3⟩ := hx i x hi
    exact ⟨vs, h1, h2.mono h, hR _ _ _ _ h h3⟩
theorem Sl.map {α β : Type} {sz : Nat} {R : Hp → List Value → α → Prop} {R' : Hp → List Value → β → Prop} {H : Hp} {v : Value} {xs : List α} (f : α → β) (hR : ∀ vs x, x ∈ xs → R H vs x → R' H vs (f x)) (hs : Sl sz R H v xs) : Sl sz R' H v (xs.map f) := by
  rcases hs with ⟨h1, h2⟩ | ⟨b, o, cap, hv, hc, hx⟩
  · exact .inl ⟨h1, by simp [h2]⟩
  · refine .inr ⟨b, o, cap, by simpa using hv, by simpa using hc, fun i y hi => ?_⟩
    rw [List.getElem?_map] at hi
    cases hxi : xs[i]? with
    | none => rw [hxi] at hi; cases hi
    | some x =>
      rw [hxi] at hi
      cases hi
      obtain ⟨vs, h1, h2, h3⟩ := hx i x hxi
      exact ⟨vs, h1, h2, hR _ _ (List.mem_of_getElem? hxi) h3⟩

/-- A slice of integers: naturals. -/
def Ints (k : IntKind) (H : Hp) (v : Value) (xs : List Nat) : Prop := Sl 1 (fun _ vs x => vs = [.int k (x : Nat)]) H v xs
theorem Ints.mono {k : IntKind} {H H' : Hp} {v : Value} {xs : List Nat} (hs : Ints k H v xs) (h : Le H H') : Ints k H' v xs := Sl.mono (fun _ _ _ _ _ h => h) h hs
/-- A slice of integers. -/
def IntsI (k : IntKind) (H : Hp) (v : Value) (xs : List Int) : Prop := Sl 1 (fun _ vs x => vs = [.int k x]) H v xs
theorem IntsI.mono {k : IntKind} {H H' : Hp} {v : Value} {xs : List Int} (hs : IntsI k H v xs) (h : Le H H') : IntsI k H' v xs := Sl.mono (fun _ _ _ _ _ h => h) h hs
def Bools (H : Hp) (v : Value) (xs : List Bool) : Prop := Sl 1 (fun _ vs x => vs = [.bool x]) H v xs
theorem Bools.mono {H H' : Hp} {v : Value} {xs : List Bool} (hs : Bools H v xs) (h : Le H H') : Bools H' v xs := Sl.mono (fun _ _ _ _ _ h => h) h hs

/-! ## Worlds that follow one another -/
/-- What was there is as it was. -/
def Ext (w w' : World) : Prop := Below w.heap.size w w'
theorem Ext.refl (w : World) : Ext w w := Below.refl _ _
theorem Ext.trans {a b c : World} (h : Ext a b) (h' : Ext b c) : Ext a c := Below.trans h (h'.mono h.size)
theorem Ext.le {w w' : World} (h : Ext w w') (A : List (Option Nat)) : Le (view A w) (view A w') := by
  intro b o hb
  have h1 := view_some hb
  refine view_mk ?_ (view_out hb)
  rw [h.block b (by rcases Nat.lt_or_ge b w.heap.size with h2 | h2; · exact h2
                    · rw [Array.getElem?_eq_none h2] at h1; cases h1)]
  exact h1
theorem Ext.drawn (w : World) (n : Nat) : Ext w { w with drawn := n } := ⟨rfl, rfl, rfl, Nat.le_refl _, fun _ _ => rfl⟩

inductive Cont where
  | cells (cs : List Value)
  | map (es : List (Value × Value))

def OwnC (w : World) : Option Nat → Cont → Prop
  | none, .cells cs => cs = []
  | none, .map _ => False
  | some b, .cells cs => ∃ t lo hi, w.heap[b]? = some (.cells cs.toArray t (lo, hi)) ∧ lo ≤ hi ∧ ∀ i, i < cs.length → ¬ (lo ≤ i ∧ i < hi)
  | some b, .map es => ∃ (ents : Array MapEntry) (clock : Nat), w.heap[b]? = some (.map ents clock) ∧ ents.toList.map (fun x => (x.key, x.val)) = es ∧ (∀ x ∈ ents.toList, x.born < clock) ∧ (ents.toList.map (·.born)).Nodup

def Owns (w : World) : List (Option Nat) → List Cont → Prop
  | [], [] => True
  | b :: O, c :: C => OwnC w b c ∧ Owns w O C
  | _, _ => False

def Bok (B : List (Option Nat)) (w : World) : Prop := ∀ b, some b ∈ B → b < w.heap.size
def Distinct : List (Option Nat) → Prop
  | [] => True
  | none :: O => Distinct O
  | some b :: O => some b ∉ O ∧ Distinct O

/-- The function that began at w0 has come to w. It may write to the blocks of X; it owns the blocks of O, which hold C; of the blocks of B it knows nothing. -/
structure Loc (X B : List (Option Nat)) (w0 w : World) (O : List (Option Nat)) (C : List Cont) : Prop where
  os : w.os = w0.os
  tape : w.tape = w0.tape
  output : w.output = w0.output
  size : w0.heap.size ≤ w.heap.size
  keep : ∀ k, k < w0.heap.size → some k ∉ X → w.heap[k]? = w0.heap[k]?
  own : Owns w O C
  fresh : ∀ b, some b ∈ O → some b ∈ X ∨ w0.heap.size ≤ b
  dist : Distinct O
  apart : ∀ b, some b ∈ X → some b ∉ B
  bok : Bok B w0

theorem OwnC.lt {w : World} {b : Nat} {c : Cont} (h : OwnC w (some b) c) : b < w.heap.size := by
  have : ∃ o, w.heap[b]? = some o := by
    cases c with
    | cells cs => obtain ⟨t, lo, hi, h1, _⟩ := h; exact ⟨_, h1⟩
    | map es => obtain ⟨en, cl, h1, _⟩ := h; exact ⟨_, h1⟩
  obtain ⟨o, ho⟩ := this
  rcases Nat.lt_or_ge b w.heap.size with h | h
  · exact h
  · rw [Array.getElem?_eq_none h] at ho; cases ho

theorem OwnC.same {w w' : World} {b : Option Nat} {c : Cont} (h : OwnC w b c) (hs : ∀ k, b = some k → w'.heap[k]? = w.heap[k]?) : OwnC w' b c := by
  cases b with
  | none => cases c <;> exact h
  | some b =>
    cases c with
    | cells cs => obtain ⟨t, lo, hi, h1, h2⟩ := h; exact ⟨t, lo, hi, by rw [hs b rfl]; exact h1, h2⟩
    | map es => obtain ⟨en, cl, h1, h2⟩ := h; exact ⟨en, cl, by rw [hs b rfl]; exact h1, h2⟩

theorem Owns.same {w w' : World} : ∀ {O : List (Option Nat)} {C : List Cont}, Owns w O C → (∀ k, some k ∈ O → w'.heap[k]? = w.heap[k]?) → Owns w' O C
  | [], [], h, _ => h
  | b :: O, c :: C, h, hs => ⟨h.1.same fun k hk => hs k (by rw [hk]; exact List.mem_cons_self), h.2.same fun k hk => hs k (List.mem_cons_of_mem _ hk)⟩
  | [], _ :: _, h, _ => h.elim
  | _ :: _, [], h, _ => h.elim

theorem Owns.lt {w : World} : ∀ {O : List (Option Nat)} {C : List Cont}, Owns w O C → ∀ k, some k ∈ O → k < w.heap.size
  | [], [], _, _, hk => by cases hk
  | b :: O, c :: C, h, k, hk => by
    cases hk with
    | head => exact h.1.lt
    | tail _ hm => exact h.2.lt k hm
  | [], _ :: _, h, _, _ => h.elim
  | _ :: _, [], h, _, _ => h.elim

theorem Owns.at {w : World} : ∀ {O : List (Option Nat)} {C : List Cont}, Owns w O C → ∀ (i : Nat) {b c}, O[i]? = some b → C[i]? = some c → OwnC w b c
  | [], [], _, i, b, c, hb, _ => by simp at hb
  | b :: O, c :: C, h, 0, b', c', hb, hc => by
    simp at hb hc; subst hb; subst hc; exact h.1
  | b :: O, c :: C, h, i + 1, b', c', hb, hc => h.2.at i (by simpa using hb) (by simpa using hc)
  | [], _ :: _, h, _, _, _, _, _ => h.elim
  | _ :: _, [], h, _, _, _, _, _ => h.elim

section
variable {X B : List (Option Nat)} {w0 w w' : World} {O O' : List (Option Nat)} {C C' : List Cont}

theorem Loc.start {w : World} {B : List (Option Nat)} (hB : Bok B w) : Loc [] B w w [] [] :=
  ⟨rfl, rfl, rfl, Nat.le_refl _, fun _ _ _ => rfl, trivial, fun _ h => (by cases h), trivial, fun _ h => (by cases h), hB⟩

theorem Loc.ext (hL : Loc X B w0 w O C) (h : Ext w w') : Loc X B w0 w' O C :=
  ⟨h.os.trans hL.os, h.tape.trans hL.tape, h.output.trans hL.output, Nat.le_trans hL.size h.size,
    fun k hk hx => (h.block k (Nat.lt_of_lt_of_le hk hL.size)).trans (hL.keep k hk hx),
    hL.own.same fun k hk => h.block k (hL.own.lt k hk), hL.fresh, hL.dist, hL.apart, hL.bok⟩

theorem Loc.bokO (hL : Loc X B w0 w O C) : Bok (O ++ B) w := by
  intro b hb
  rcases List.mem_append.1 hb with h | h
  · exact hL.own.lt b h
  · exact Nat.lt_of_lt_of_le (hL.bok b h) hL.size

theorem Loc.at (hL : Loc X B w0 w O C) (i : Nat) {b : Option Nat} {c : Cont} (hb : O[i]? = some b) (hc : C[i]? = some c) : OwnC w b c := hL.own.at i hb hc

/-- The blocks that a function owns are none of its caller's. -/
theorem Loc.notB (hL : Loc X B w0 w O C) {b : Nat} (hb : some b ∈ O) : some b ∉ B := by
  intro h
  rcases hL.fresh b hb with h1 | h1
  · exact hL.apart b h1 h
  · have := hL.bok b h; omega

/-- What stands in the view is left alone where only owned blocks are written. -/
structure Step (O O' : List (Option Nat)) (w w' : World) : Prop where
  same : ∀ k, k < w.heap.size → some k ∉ O → w'.heap[k]? = w.heap[k]?
  grow : ∀ b, some b ∈ O' → some b ∈ O ∨ w.heap.size ≤ b
theorem Step.le (h : Step O O' w w') (B : List (Option Nat)) : Le (view (O ++ B) w) (view (O' ++ B) w') := by
  intro b o hb
  have h1 := view_some hb
  have h2 := view_out hb
  have hlt : b < w.heap.size := by
    rcases Nat.lt_or_ge b w.heap.size with h | h
    · exact h
    · rw [Array.getElem?_eq_none h] at h1; cases h1
  rw [List.mem_append, not_or] at h2
  refine view_mk ((h.same b hlt h2.1).trans h1) ?_
  rw [List.mem_append, not_or]
  refine ⟨fun h3 => ?_, h2.2⟩
  rcases h.grow b h3 with h4 | h4
  · exact h2.1 h4
  · omega
theorem Step.ext (h : Ext w w') : Step O O w w' := ⟨fun k hk _ => h.block k hk, fun _ h => .inl h⟩
theorem Step.refl : Step O O w w := ⟨fun _ _ _ => rfl, fun _ h => .inl h⟩

/-- A new block, owned. -/
theorem Loc.alloc (hL : Loc X B w0 w O C) {o : Obj} {c : Cont} (hc : OwnC (w.alloc o) (some w.heap.size) c) :
    Loc X B w0 (w.alloc o) (some w.heap.size :: O) (c :: C) ∧ Step O (some w.heap.size :: O) w (w.alloc o) := by
  have hsame : ∀ k, k < w.heap.size → (w.alloc o).heap[k]? = w.heap[k]? := fun k hk => Below.heap_alloc w o k hk
  have hsz : w.heap.size ≤ (w.alloc o).heap.size := by simp
  refine ⟨⟨hL.os, hL.tape, hL.output, Nat.le_trans hL.size hsz, fun k hk hx => (hsame k (Nat.lt_of_lt_of_le hk hL.size)).trans (hL.keep k hk hx),
    ⟨hc, hL.own.same fun k hk => hsame k (hL.own.lt k hk)⟩, ?_, ⟨fun h => ?_, hL.dist⟩, hL.apart, hL.bok⟩, ⟨fun k hk _ => hsame k hk, ?_⟩⟩
  · intro b hb
    cases hb with
    | head => exact .inr hL.size
    | tail _ hm => exact hL.fresh b hm
  · exact absurd (hL.own.lt _ h) (Nat.lt_irrefl _)
  · intro b hb
    cases hb with
    | head => exact .inr (Nat.le_refl _)
    | tail _ hm => exact .inl hm

theorem Owns.set {w w' : World} : ∀ {O : List (Option Nat)} {C : List Cont}, Owns w O C → Distinct O → ∀ (i : Nat) {b : Nat} {c' : Cont}, O[i]? = some (some b) → OwnC w' (some b) c' →
    (∀ k, k < w.heap.size → k ≠ b → w'.heap[k]? = w.heap[k]?) → Owns w' O (C.set i c')
  | [], [], _, _, i, b, c', hb, _, _ => by simp at hb
  | x :: O, c :: C, h, hd, 0, b, c', hb, hc, hs => by
    simp at hb; subst hb
    refine ⟨hc, h.2.same fun k hk => hs k (h.2.lt k hk) ?_⟩
    rintro rfl
    exact hd.1 hk
  | x :: O, c :: C, h, hd, i + 1, b, c', hb, hc, hs => by
    have hb' : O[i]? = some (some b) := by simpa using hb
    have hd' : Distinct O := by cases x with | none => exact hd | some y => exact hd.2
    refine ⟨h.1.same fun k hk => hs k (by subst hk; exact h.1.lt) ?_, h.2.set hd' i hb' hc hs⟩
    subst hk
    rintro rfl
    exact hd.1 (List.mem_of_getElem? hb')
  | [], _ :: _, h, _, _, _, _, _, _, _ => h.elim
  | _ :: _, [], h, _, _, _, _, _, _, _ => h.elim

/-- An owned block is written. -/
theorem Loc.put (hL : Loc X B w0 w O C) (i : Nat) {b : Nat} {c' : Cont} (hb : O[i]? = some (some b)) (hc : OwnC w' (some b) c')
    (hs : ∀ k, k ≠ b → w'.heap[k]? = w.heap[k]?) (hsz : w'.heap.size = w.heap.size) (h1 : w'.os = w.os) (h2 : w'.tape = w.tape) (h3 : w'.output = w.output) :
    Loc X B w0 w' O (C.set i c') ∧ Step O O w w' := by
  have hin : some b ∈ O := List.mem_of_getElem? hb
  refine ⟨⟨h1.trans hL.os, h2.trans hL.tape, h3.trans hL.output, by rw [hsz]; exact hL.size, fun k hk hx => ?_, hL.own.set hL.dist i hb hc fun k _ hk => hs k hk, hL.fresh, hL.dist, hL.apart, hL.bok⟩, ⟨fun k hk hn => hs k ?_, fun _ h => .inl h⟩⟩
  · rw [hs k]
    · exact hL.keep k hk hx
    · rintro rfl
      rcases hL.fresh _ hin with h | h
      · exact hx h
      · omega
  · rintro rfl; exact hn hin

theorem heap_setCell_same {w : World} {b o : Nat} {v : Value} {c : Array Value} {t : TypeId} {fz : Nat × Nat} (h : w.heap[b]? = some (.cells c t fz)) :
    (w.setCell ⟨b, o, none⟩ v).heap[b]? = some (.cells (c.setIfInBounds o v) t fz) := by
  simp [World.setCell, Array.getElem?_modify, h]

/-- One cell of an owned block is written. -/
theorem Loc.setCell (hL : Loc X B w0 w O C) (i : Nat) {b o : Nat} {cs : List Value} (v : Value) (hb : O[i]? = some (some b)) (hc : C[i]? = some (.cells cs)) :
    Loc X B w0 (w.setCell ⟨b, o, none⟩ v) O (C.set i (.cells (cs.set o v))) ∧ Step O O w (w.setCell ⟨b, o, none⟩ v) := by
  obtain ⟨t, lo, hi, h1, h2⟩ := hL.at i hb hc
  refine hL.put i hb ⟨t, lo, hi, ?_, h2.1, fun j hj => h2.2 j (by simpa using hj)⟩ (fun k hk => Below.heap_setCell _ _ _ _ hk) (by simp [World.setCell]) rfl rfl rfl
  rw [heap_setCell_same h1]
  simp

theorem Distinct.sub {O : List (Option Nat)} : ∀ (i : Nat), Distinct O → Distinct (O.eraseIdx i) := by
  induction O with
  | nil => intro i h; simpa using h
  | cons x O ih =>
    intro i h
    cases i with
    | zero => cases x with | none => exact h | some y => exact h.2
    | succ i =>
      simp only [List.eraseIdx_cons_succ]
      cases x with
      | none => exact ih i h
      | some y => exact ⟨fun hm => h.1 (List.mem_of_mem_eraseIdx hm), ih i h.2⟩
theorem Owns.drop {w : World} : ∀ {O : List (Option Nat)} {C : List Cont} (i : Nat), Owns w O C → Owns w (O.eraseIdx i) (C.eraseIdx i)
  | [], [], _, h => h
  | _ :: _, _ :: _, 0, h => h.2
  | _ :: _, _ :: _, i + 1, h => ⟨h.1, h.2.drop i⟩
  | [], _ :: _, _, h => h.elim
  | _ :: _, [], _, h => h.elim

/-- An owned block is given up: from here on it is only read. -/
theorem Loc.drop (hL : Loc X B w0 w O C) (i : Nat) : Loc X B w0 w (O.eraseIdx i) (C.eraseIdx i) ∧ Step O (O.eraseIdx i) w w :=
  ⟨⟨hL.os, hL.tape, hL.output, hL.size, hL.keep, hL.own.drop i, fun b hb => hL.fresh b (List.mem_of_mem_eraseIdx hb), hL.dist.sub i, hL.apart, hL.bok⟩,
    ⟨fun _ _ _ => rfl, fun _ hb => .inl (List.mem_of_mem_eraseIdx hb)⟩⟩

theorem Distinct.not_mem_erase {O : List (Option Nat)} : ∀ {i : Nat} {b : Nat}, Distinct O → O[i]? = some (some b) → some b ∉ O.eraseIdx i := by
  induction O with
  | nil => intro i b _ h; simp at h
  | cons x O ih =>
    intro i b hd h
    cases i with
    | zero => simp at h; subst h; exact hd.1
    | succ i =>
      have h' : O[i]? = some (some b) := by simpa using h
      simp only [List.eraseIdx_cons_succ]
      intro hm
      cases hm with
      | head => exact hd.1 (List.mem_of_getElem? h')
      | tail _ hm =>
        cases x with
        | none => exact ih (i := i) hd h' hm
        | some y => exact ih (i := i) hd.2 h' hm

theorem Loc.frozen (hL : Loc X B w0 w O C) (i : Nat) {b : Nat} {cs : List Value} (hb : O[i]? = some (some b)) (hc : C[i]? = some (.cells cs)) : At (view (O.eraseIdx i ++ B) w) b 0 cs := by
  obtain ⟨t, lo, hi, h1, h2⟩ := hL.at i hb hc
  intro j hj
  have hv : view (O.eraseIdx i ++ B) w b = some (.cells cs.toArray t (lo, hi)) := by
    refine view_mk h1 ?_
    rw [List.mem_append, not_or]
    exact ⟨hL.dist.not_mem_erase hb, hL.notB (List.mem_of_getElem? hb)⟩
  simp [cellH, hv]

/-- What a function hands on at its end. -/
theorem Loc.done (hL : Loc [] B w0 w O C) : Ext w0 w :=
  ⟨hL.os, hL.tape, hL.output, hL.size, fun k hk => hL.keep k hk (by simp)⟩
theorem Loc.le0 (hL : Loc X B w0 w O C) : Le (view (O ++ B) w) (view B w) := by
  intro b o hb
  have h := view_out hb
  rw [List.mem_append, not_or] at h
  exact view_mk (view_some hb) h.2
end

/-- The post of a function that leaves alone what was there. -/
def Ret (w : World) (Φ : Value → World → Prop) (e : Ending) (w' : World) : Prop := ∃ v, e = .returned v ∧ Ext w w' ∧ Φ v w'
/-- The post of a function that leaves all as it was. -/
def RetQ (w : World) (v : Value) (e : Ending) (w' : World) : Prop := e = .returned v ∧ w' = w
end Go.X
