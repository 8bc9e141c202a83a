/-
  Drawn regions: what is told of the values of their heads. Texts. Plain theorems over any program.
-/
import Derived.Test.YtpfbdhfpojbmlaaDoorZ4
set_option linter.unusedSimpArgs false
set_option linter.unusedVariables false
namespace Go.X
open Go Go.RowKit

def Any (_ : Nat) : Prop := True
def HZ (w1 : World) (s : Nat) (S : Nat → Prop) (O : List (Option Nat)) (Z : Nat → Prop) : Nat → Prop := fun b => (HS s S O b ∧ b < w1.heap.size) ∨ Z b
noncomputable def Zv (w1 : World) (s : Nat) (S : Nat → Prop) (O : List (Option Nat)) (Z : Nat → Prop) (w : World) : Hp := vw (HZ w1 s S O Z) w
def ZN (Z : Nat → Prop) (w w' : World) (OB : List (Option Nat)) : Nat → Prop := fun b => Z b ∨ (w.heap.size ≤ b ∧ b < w'.heap.size ∧ some b ∉ OB)
def footV : Value → List (Option Nat)
  | .slice (some a) _ _ => [some a.block]
  | .pointer (some a) => [some a.block]
  | _ => []
theorem footV_osv {ob : Option Nat} {o n cap b : Nat} : some b ∈ footV (osv ob o n cap) ↔ some b ∈ [ob] := by
  cases ob <;> simp [osv, footV]
theorem dist_one (ob : Option Nat) : Distinct [ob] := by
  cases ob with
  | none => trivial
  | some b => exact ⟨fun h => by simp at h, trivial⟩
section
variable {s : Nat} {S : Nat → Prop} {X O O' OB : List (Option Nat)} {C CB : List Cont} {w w' w'' w0 w1 : World} {α : Type} {r : Rep α} {Z Z' : Nat → Prop} {cf ft : List (Option Nat)} {φ : (Nat → Prop) → World → Prop}
theorem vw_any {S' : Nat → Prop} : Le (vw S' w) (Hv w.heap.size Any [] w) := fun b o h => vw_mk ⟨.inl trivial, by simp⟩ (vw_some h).2
theorem Hv.any : Le (Hv s S O w) (Hv w.heap.size Any [] w) := vw_any
theorem Zv.any : Le (Zv w1 s S O Z w) (Hv w.heap.size Any [] w) := vw_any
theorem vw_view {S' : Nat → Prop} : Le (vw S' w) (view [] w) := fun b o h => view_mk (vw_some h).2 (by simp)
theorem Zv.view : Le (Zv w1 s S O Z w) (view [] w) := vw_view
theorem Zv.none : Le (Zv w1 s None O Z w) (Zv w1 s S O Z w) := fun b o h => by
  obtain ⟨h1, h3⟩ := vw_some h
  rcases h1 with ⟨⟨h1, h2⟩, h4⟩ | h1
  · exact vw_mk (.inl ⟨⟨.inr (h1.resolve_left id), h2⟩, h4⟩) h3
  · exact vw_mk (.inr h1) h3
/-- what was readable before the region -/
theorem Zv.old (hE : Ext w1 w) : Le (Hv s S O w1) (Zv w1 s S O Z w) := fun b o h => by
  obtain ⟨h1, h3⟩ := vw_some h
  exact vw_mk (.inl ⟨h1, heap_lt h3⟩) ((hE.block b (heap_lt h3)).trans h3)
/-- stays -/
theorem Zv.stay (hz : ∀ b, Z b → Z' b) {F : List (Option Nat)} (hs : ∀ b, (b < w1.heap.size ∨ Z b ∨ some b ∈ F) → b < w.heap.size → w'.heap[b]? = w.heap[b]?) : Le (Zv w1 s S O Z w) (Zv w1 s S O Z' w') := fun b o h => by
  obtain ⟨h1, h3⟩ := vw_some h
  rcases h1 with ⟨h1, h4⟩ | h1
  · exact vw_mk (.inl ⟨h1, h4⟩) ((hs b (.inl h4) (heap_lt h3)).trans h3)
  · exact vw_mk (.inr (hz b h1)) ((hs b (.inr (.inl h1)) (heap_lt h3)).trans h3)
theorem OwnC.stay {ob : Option Nat} {c : Cont} (h : OwnC w ob c) {F : List (Option Nat)} (hF : ∀ b, ob = some b → some b ∈ F) (hs : ∀ b, (b < w1.heap.size ∨ Z b ∨ some b ∈ F) → b < w.heap.size → w'.heap[b]? = w.heap[b]?) : OwnC w' ob c :=
  h.same fun k hk => hs k (.inr (.inr (hF k hk))) (by subst hk; exact h.lt)
/-- what a call has made -/
theorem Zv.made : Le (Hv w.heap.size None OB w') (Zv w1 s S O (ZN Z w w' OB) w') := fun b o h => by
  obtain ⟨⟨h1, h2⟩, h3⟩ := vw_some h
  rcases h1 with h1 | h1
  · exact h1.elim
  · exact vw_mk (.inr (.inr ⟨h1, heap_lt h3, h2⟩)) h3
/-- what a call has made of what it could read -/
theorem Zv.madeA : Le (Hv w.heap.size (HZ w1 s S O Z) OB w') (Zv w1 s S O (ZN Z w w' OB) w') := fun b o h => by
  obtain ⟨⟨h1, h2⟩, h3⟩ := vw_some h
  rcases h1 with (h1 | h1) | h1
  · exact vw_mk (.inl h1) h3
  · exact vw_mk (.inr (.inl h1)) h3
  · exact vw_mk (.inr (.inr ⟨h1, heap_lt h3, h2⟩)) h3
theorem Zv.enter : Le (Zv w1 s S O Z w) (Hv w.heap.size (HZ w1 s S O Z) [] w) := fun b o h => by
  obtain ⟨h1, h3⟩ := vw_some h
  exact vw_mk ⟨.inl h1, by simp⟩ h3
theorem Zv.grow (hE : Ext w w') : Le (Zv w1 s S O Z w) (Zv w1 s S O (ZN Z w w' OB) w') := fun b o h => by
  obtain ⟨h1, h3⟩ := vw_some h
  refine vw_mk ?_ ((hE.block b (heap_lt h3)).trans h3)
  rcases h1 with h1 | h1
  · exact .inl h1
  · exact .inr (.inl h1)
theorem Zv.use {ob : Option Nat} (hB : Bnd w1 w Z [ob]) (hL : Loc [ob] [] w w' O' C) : Le (Zv w1 s S O Z w) (Zv w1 s S O (ZN Z w w' O') w') := fun b o h => by
  obtain ⟨h1, h3⟩ := vw_some h
  have hn : some b ∉ [ob] := fun hm => by
    obtain ⟨g1, g2, g3⟩ := hB b hm
    rcases h1 with h1 | h1
    · have := h1.2; omega
    · exact g3 h1
  refine vw_mk ?_ ((hL.keep b (heap_lt h3) hn).trans h3)
  rcases h1 with h1 | h1
  · exact .inl h1
  · exact .inr (.inl h1)
/-- at the end of the head -/
theorem Zv.fin (hL : Loc X [] w0 w1 O C) (hZ : ZB w1 w Z) (hB : ∀ b, some b ∈ OB → w1.heap.size ≤ b ∧ ¬ Z b) : Le (Zv w1 w0.heap.size S O Z w) (Hv w0.heap.size S (OB ++ O) w) := fun b o h => by
  obtain ⟨h1, h3⟩ := vw_some h
  rcases h1 with ⟨h1, h4⟩ | h1
  · refine vw_mk ⟨h1.1, fun hm => ?_⟩ h3
    rcases List.mem_append.1 hm with h2 | h2
    · have := (hB b h2).1; omega
    · exact h1.2 h2
  · have hz := hZ b h1
    refine vw_mk ⟨.inr (Nat.le_trans hL.size hz.1), fun hm => ?_⟩ h3
    rcases List.mem_append.1 hm with h2 | h2
    · exact (hB b h2).2 h1
    · have := hL.own.lt b h2; omega
theorem Made.same (hφ : φ Z w) : Made cf [] Z w w φ :=
  ⟨Z, fun _ h => h, fun _ h => .inl h, Use.ext (Ext.refl _), hφ, fun _ h => by cases h⟩
theorem Made.ext (hE : Ext w w') (hZ : ZB w1 w Z) (hN : NewOwn w w' OB CB) (hft : ∀ b, some b ∈ ft → some b ∈ OB) (hφ : φ (ZN Z w w' OB) w') : Made cf ft Z w w' φ := by
  refine ⟨ZN Z w w' OB, fun _ h => .inl h, fun b h => ?_, Use.ext hE, hφ, fun b hb => ?_⟩
  · rcases h with h | h
    · exact .inl h
    · exact .inr (.inl ⟨h.1, h.2.1⟩)
  · have hb' := hft b hb
    refine ⟨.inl ⟨hN.1 b hb', hN.2.2.lt b hb'⟩, fun h => ?_⟩
    rcases h with h | h
    · have := (hZ b h).2; have := hN.1 b hb'; omega
    · exact h.2.2 hb'
theorem Made.use {ob ob' : Option Nat} {c : Cont} (hZ : ZB w1 w Z) (hB : Bnd w1 w Z [ob]) (hL : Loc [ob] [] w w' [ob'] [c]) (hcf : ∀ b, ob = some b → some b ∈ cf) (hft : ∀ b, some b ∈ ft → some b ∈ [ob']) (hφ : φ (ZN Z w w' [ob']) w') : Made cf ft Z w w' φ := by
  refine ⟨ZN Z w w' [ob'], fun _ h => .inl h, fun b h => ?_, ⟨hL.os, hL.tape, hL.output, hL.size, fun k hk hn => hL.keep k hk fun hm => hn (hcf k (List.mem_singleton.1 hm).symm)⟩, hφ, fun b hb => ?_⟩
  · rcases h with h | h
    · exact .inl h
    · exact .inr (.inl ⟨h.1, h.2.1⟩)
  · have hb' := hft b hb
    have hlt := hL.own.lt b hb'
    have hn : ¬ ZN Z w w' [ob'] b := fun h => by
      rcases h with h | h
      · rcases hL.fresh b hb' with g | g
        · exact (hB b g).2.2 h
        · have := (hZ b h).2; omega
      · exact h.2.2 hb'
    refine ⟨?_, hn⟩
    rcases hL.fresh b hb' with g | g
    · exact .inr (hcf b (List.mem_singleton.1 g).symm)
    · exact .inl ⟨g, hlt⟩
theorem Loc.begin0 (w : World) : Loc [] [] w w [] [] := Loc.begin trivial trivial
theorem Loc.begin1 {ob : Option Nat} {c : Cont} (h : OwnC w ob c) : Loc [ob] [] w w [ob] [c] := Loc.begin ⟨h, trivial⟩ (dist_one ob)
theorem NewOwn.nil : NewOwn w w' [] [] := ⟨fun _ h => (by simp at h), trivial, trivial⟩
theorem NewOwn.cons {ob : Option Nat} {c : Cont} (hN : NewOwn w w' OB CB) (hc : OwnC w' ob c) (hb : ∀ b, ob = some b → w.heap.size ≤ b) (hd : ∀ b, some b ∈ [ob] → some b ∉ OB) : NewOwn w w' (ob :: OB) (c :: CB) := by
  refine ⟨fun b hm => ?_, ?_, ⟨hc, hN.2.2⟩⟩
  · rcases List.mem_cons.1 hm with h | h
    · exact hb b h.symm
    · exact hN.1 b h
  · cases ob with
    | none => exact hN.2.1
    | some b => exact ⟨hd b (by simp), hN.2.1⟩
/-- a row that a call hands over, only read from here on -/
theorem own_row_any {ob : Option Nat} {o n cap : Nat} {pre cs sp : List Value} {xs : List α} {H : Hp} (hc : OwnC w ob (.cells (pre ++ (cs ++ sp)))) (hE : Els r H cs xs) (hle : Le H (Hv w.heap.size Any [] w)) (hz : (r.sz == 0) = false) (ho : o = pre.length) (hn : n = xs.length) (hcap : (cs ++ sp).length = cap * r.sz) :
    Rs r (Hv w.heap.size Any [] w) (osv ob o n cap) xs := by
  cases ob with
  | none => exact row_nil hc hE hz
  | some b => exact row_rs (own_at hc fun q hq => vw_mk ⟨.inl trivial, by simp⟩ hq) (hE.mono hle) hz ho hn hcap
theorem own_row_made {ob : Option Nat} {o n cap : Nat} {pre cs sp : List Value} {xs : List α} (hN : NewOwn w w' [ob] [.cells (pre ++ (cs ++ sp))]) (hE : Els r (Hv w.heap.size None [ob] w') cs xs) (hz : (r.sz == 0) = false) (ho : o = pre.length) (hn : n = xs.length) (hcap : (cs ++ sp).length = cap * r.sz) :
    Rs r (Hv w.heap.size None [] w') (osv ob o n cap) xs := by
  have hc := hN.2.2.1
  cases ob with
  | none => exact row_nil hc hE hz
  | some b => exact row_rs (own_at hc fun q hq => vw_mk ⟨.inr (hN.1 b (by simp)), by simp⟩ hq) (hE.mono (Hv.sub fun b h => by cases h)) hz ho hn hcap
theorem own_row_madeA {ob : Option Nat} {o n cap : Nat} {pre cs sp : List Value} {xs : List α} {S' : Nat → Prop} (hN : NewOwn w w' [ob] [.cells (pre ++ (cs ++ sp))]) (hE : Els r (Hv w.heap.size S' [ob] w') cs xs) (hz : (r.sz == 0) = false) (ho : o = pre.length) (hn : n = xs.length) (hcap : (cs ++ sp).length = cap * r.sz) :
    Rs r (Hv w.heap.size S' [] w') (osv ob o n cap) xs := by
  have hc := hN.2.2.1
  cases ob with
  | none => exact row_nil hc hE hz
  | some b => exact row_rs (own_at hc fun q hq => vw_mk ⟨.inr (hN.1 b (by simp)), by simp⟩ hq) (hE.mono (Hv.sub fun b h => by cases h)) hz ho hn hcap
end

/-! ## Texts -/
theorem s8_beq (x y : List UInt8) : (x == y) = decide (x = y) := by
  by_cases h : x = y
  · subst h; simp
  · simp [h]
section
variable {P : Program} {ty : TypeId} {ρ : Operand → Value} {w : World} {R : Value → World → Prop}
theorem OpY.sAdd {t u : TypeId} {a b : Operand} {x y : List UInt8} (ha : ρ a = .string (s8 x)) (hb : ρ b = .string (s8 y)) (hl : (x.length : Int) + y.length ≤ 9223372036854775807) (h : R (.string (s8 (x ++ y))) w) : OpY P (.binOp .add t a b u) ty ρ w R := by
  have h1 : ¬ (((s8 x).size + (s8 y).size : Nat) : Int) > IntKind.i64.max := by
    have hm : IntKind.i64.max = 9223372036854775807 := by decide
    rw [s8_size, s8_size, hm]; omega
  have hr : (Op.stringOp .add (s8 x) (s8 y)).run P w = .ok (.string (s8 (x ++ y))) w := by
    simp only [Op.stringOp]
    rw [if_neg h1, s8_append]; rfl
  simp only [OpY, bareOp, execOp, ha, hb]
  simp only [binOp, eqGuard]
  simp [hr, upon]
  exact h
theorem OpY.sEql {t u : TypeId} {a b : Operand} {x y : List UInt8} (ha : ρ a = .string (s8 x)) (hb : ρ b = .string (s8 y)) (h : R (.bool (decide (x = y))) w) : OpY P (.binOp .eql t a b u) ty ρ w R := by
  have hr : (Op.stringOp .eql (s8 x) (s8 y)).run P w = .ok (.bool (decide (x = y))) w := by
    simp only [Op.stringOp, s8_toList]
    rw [s8_beq]; rfl
  simp only [OpY, bareOp, execOp, ha, hb]
  simp only [binOp, eqGuard]
  simp [hr, upon]
  exact h
theorem OpY.sNeq {t u : TypeId} {a b : Operand} {x y : List UInt8} (ha : ρ a = .string (s8 x)) (hb : ρ b = .string (s8 y)) (h : R (.bool (decide (¬ x = y))) w) : OpY P (.binOp .neq t a b u) ty ρ w R := by
  have hr : (Op.stringOp .neq (s8 x) (s8 y)).run P w = .ok (.bool (decide (¬ x = y))) w := by
    simp only [Op.stringOp, s8_toList]
    rw [s8_beq, decide_not]; rfl
  simp only [OpY, bareOp, execOp, ha, hb]
  simp only [binOp, eqGuard]
  simp [hr, upon]
  simpa using h
end
end Go.X
