/-
  More operations: a pointer that is looked at, strings of bytes, structs of two integers compared, rows whose head is cut off. Plain theorems over any program.
-/
import Derived.Test.YthmoefciofnmdaaDoorZ7
import Derived.Laws.StructEq
import Derived.Laws.BytesString
set_option linter.unusedSimpArgs false
set_option linter.unusedVariables false
namespace Go.X
open Go Go.RowKit
section
variable {P : Program} {ty : TypeId} {ρ : Operand → Value} {w w0 : World} {R : Value → World → Prop} {X : List (Option Nat)} {O : List (Option Nat)} {C : List Cont} {α : Type} {r : Rep α} {H : Hp}
def bstr (xs : List Int) : List UInt8 := xs.map fun n => UInt8.ofNat n.toNat
theorem foldl_push (ns : List Int) : ∀ b : ByteArray, ns.foldl (fun r n => r.push (UInt8.ofNat n.toNat)) b = b ++ s8 (bstr ns) := by
  induction ns with
  | nil => intro b; apply ByteArray.ext; simp [s8, bstr]
  | cons n ns ih =>
    intro b
    rw [List.foldl_cons, ih]
    apply ByteArray.ext
    simp [s8, bstr, ByteArray.push]
theorem Els.intCells {k : IntKind} : ∀ {cs : List Value} {xs : List Int}, Els (rInt k) H cs xs → cs = xs.map (Value.int k)
  | _, [], h => h
  | _, x :: xs, ⟨a, b, h1, h2, h3⟩ => by rw [h1, show a = [.int k x] from h2, h3.intCells]; rfl
theorem OpY.strSrc {t u e : TypeId} {x : Operand} {v : Value} {xs : List Int} {ds : List Value} (hs : P.underlying t = some (.slice e)) (hd : P.underlying u = some .string) (he : P.underlying e = some (.int .u8)) (hx : ρ x = v)
    (hsrc : Src w v xs.length 1 ds) (hD : Els (rInt .u8) H ds xs) (h : R (.string (s8 (bstr xs))) w) : OpY P (.convert t u x) ty ρ w R := by
  have key : (convert t u v).run P w = .ok (.string (s8 (bstr xs))) w := by
    obtain ⟨hnl, hsrc⟩ := hsrc
    have hds := hD.intCells
    rcases hsrc with ⟨⟨oa, rfl⟩, h0⟩ | ⟨b, o, cap, rfl, hcell⟩
    · rw [run_convert_bytes_string w t u e oa 0 0 hs he hd]
      have hx0 : xs = [] := List.eq_nil_of_length_eq_zero h0
      subst hx0
      cases oa with
      | none => rfl
      | some a =>
        have := run_bytesToString (P := P) w a 0 0 [] (by simp [loadCells, loadCellsFrom])
        rw [this, foldl_push]; congr 2
    · rw [run_convert_bytes_string w t u e _ _ _ hs he hd]
      have hl := run_loadCells_list (P := P) w ⟨b, o, none⟩ ds (fun j u hj => by rw [add_plain]; exact hcell j u hj)
      rw [hnl, Nat.mul_one] at hl
      have := run_bytesToString (P := P) w ⟨b, o, none⟩ xs.length cap xs (by rw [hl, hds])
      rw [this, foldl_push]; congr 2
  simp only [OpY, bareOp, execOp, hx]
  simp [key, upon]
  exact h
theorem OpY.strRow {t u e : TypeId} {x : Operand} {ob : Option Nat} {n cap : Nat} {pre cs sp : List Value} {xs : List Int} (hs : P.underlying t = some (.slice e)) (hd : P.underlying u = some .string) (he : P.underlying e = some (.int .u8)) (hx : ρ x = osv ob pre.length n cap)
    (hc : OwnC w ob (.cells (pre ++ (cs ++ sp)))) (hE : Els (rInt .u8) H cs xs) (hn : n = xs.length) (h : R (.string (s8 (bstr xs))) w) : OpY P (.convert t u x) ty ρ w R :=
  OpY.strSrc hs hd he hx (Src.row hc hE rfl rfl hn) hE h
end
end Go.X
