/-
  strings.Builder in the walk: made, written to, read. The builder's blocks lie at B or above; what is written keeps all below B.
-/
import Derived.Test.YtcakdidcpoolcaaGreatDoorBld25
import Derived.Test.YtcakdidcpoolcaaGreatDoorFD25
import Derived.Test.YtcakdidcpoolcaaGreatDoorZ
set_option linter.unusedSimpArgs false
set_option linter.unusedVariables false
set_option maxRecDepth 100000
namespace Go.X
open Go Go.RowKit Go.D Go.Proofs
def Bl (B b : Nat) (l : List UInt8) (w : World) : Prop := Lib.IsBuilderF 135 5 B b (Lib.byteCells l) w ∧ B ≤ w.heap.size
theorem grown_ext {w w' : World} (h : Ext w w') : w.grownBy w' none := ⟨h.os, h.tape, h.output, h.size, fun k hk _ => h.block k hk⟩
theorem Bl.ext {B b : Nat} {l : List UInt8} {w w' : World} (h : Bl B b l w) (hE : Ext w w') : Bl B b l w' := by
  have go : ∀ p, Lib.BuilderAtF 135 5 B b p (Lib.byteCells l) w → Lib.BuilderAtF 135 5 B b p (Lib.byteCells l) w' := by
    rintro p ⟨h1, v, h2, h3, h4⟩
    refine ⟨h1, v, ?_, h3.kept (grown_ext hE) ?_, h4⟩
    · rw [hE.block b (heap_lt h2)]; exact h2
    · cases v.ownBlock with
      | none => exact .inl rfl
      | some x => exact .inr (by simp)
  exact ⟨h.1.imp (go _) (go _), Nat.le_trans h.2 hE.size⟩
section
variable {ty : TypeId} {ρ : Operand → Value} {w : World} {R : Value → World → Prop}
theorem OpY.newBl (h : ∀ b w', Ext w w' → Bl w.heap.size b [] w' → R (.pointer (some ⟨b, 0, none⟩)) w') : OpY Tryz.prog (.alloc 135) ty ρ w R := by
  obtain ⟨i, hi, hz⟩ : ∃ i, Tryz.prog.info? 135 = some i ∧ i.zero = some (.agg #[.pointer none, .slice none 0 0]) := by
    have h : (Tryz.prog.info? 135).map (·.zero) = some (some (.agg #[.pointer none, .slice none 0 0])) := by kernel_rfl
    cases hi : Tryz.prog.info? 135 with
    | none => rw [hi] at h; simp at h
    | some i => rw [hi] at h; simp at h; exact ⟨i, rfl, h⟩
  have hc : (Value.agg #[Value.pointer none, Value.slice none 0 0]).cells = #[Value.pointer none, Value.slice none 0 0] := rfl
  simp only [OpY, bareOp, execOp]
  simp [Instr.alloc, zeroValue, typeInfo, hi, hz, newVar, newRow, hc, upon]
  refine h w.heap.size _ ⟨rfl, rfl, rfl, by simp, fun k hk => Below.heap_alloc w _ k hk⟩ ⟨.inl ⟨Nat.le_refl _, .slice none 0 0, ?_, ⟨rfl, .inl ⟨rfl, rfl⟩⟩, by simp [Value.ownBlock]⟩, by simp⟩
  show (w.heap.push _)[w.heap.size]? = _
  simp
theorem OpY.wrBl {x y : Operand} {ats : Array TypeId} {B b : Nat} {l s z : List UInt8} (he : Enters Tryz.prog 68) (hf : ρ (.func 68) = .func (.func 68) #[] #[]) (hx : ρ x = .pointer (some ⟨b, 0, none⟩)) (hy : ρ y = .string (s8 s)) (hB : Bl B b l w) (hq : wr l s = some z)
    (h : ∀ v w', Bl B b z w' → Below B w w' → R v w') : OpY Tryz.prog (.call { callee := .value (.func 68), args := #[x, y], argTypes := ats }) ty ρ w R := by
  unfold wr at hq
  split at hq
  · rename_i hl
    cases hq
    refine OpY.callg (args := [x, y]) he hf (by simp [hx, hy]) (Tryz.bld_write B b (Lib.byteCells l) (s8 s) w hB.1 (by rw [Lib.byteCells_length, s8_size]; exact hl) hB.2) ?_
    rintro e w' ⟨rfl, h1, h2⟩
    refine ⟨_, rfl, h _ w' ⟨.inr ?_, Nat.le_trans hB.2 h2.size⟩ h2⟩
    have e1 : Lib.strCells (s8 s) = Lib.byteCells s := rfl
    rw [e1, ← Lib.byteCells_append] at h1
    exact h1
  · cases hq
theorem OpY.rdBl {x : Operand} {ats : Array TypeId} {B b : Nat} {l : List UInt8} (he : Enters Tryz.prog 69) (hf : ρ (.func 69) = .func (.func 69) #[] #[]) (hx : ρ x = .pointer (some ⟨b, 0, none⟩)) (hB : Bl B b l w)
    (h : ∀ w', Below B w w' → R (.string (s8 l)) w') : OpY Tryz.prog (.call { callee := .value (.func 69), args := #[x], argTypes := ats }) ty ρ w R := by
  refine OpY.callg (args := [x]) he hf (by simp [hx]) (Tryz.bld_string B b l w hB.1 hB.2) ?_
  rintro e w' ⟨rfl, h1, h2⟩
  exact ⟨_, rfl, h w' h2⟩
end
end Go.X
