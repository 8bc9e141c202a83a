/- Owned slices that may be nil: where there is a cell, there is a block. -/
import Derived.Test.YtpfbdhfpojbmlaaDoorX10
import Derived.ChangeKeysEq
namespace Go.X
theorem OwnC.some_of {w : World} {ob : Option Nat} {cs : List Value} (h : OwnC w ob (.cells cs)) (hc : 0 < cs.length) : ∃ b, ob = some b := by
  cases ob with
  | some b => exact ⟨b, rfl⟩
  | none =>
    have : cs = [] := h
    subst this; cases hc
theorem len_ints_pos {k : IntKind} {xs : List Nat} {sp : List Value} {i : Nat} (h : i < xs.length) : 0 < (ints k xs ++ sp).length := by
  rw [List.length_append, ints_length]; omega
theorem OwnC.len0 {w : World} {ob : Option Nat} {k : IntKind} {xs : List Nat} {sp : List Value} {n : Nat} (h : OwnC w ob (.cells (ints k xs ++ sp))) (hn : n = xs.length) : ob = none → n = 0 := by
  rintro rfl
  have h0 : ints k xs ++ sp = [] := h
  have := congrArg List.length h0
  rw [List.length_append, ints_length, List.length_nil] at this
  omega
section
variable {P : Program} {ty : TypeId} {ρ : Operand → Value} {w : World} {R : Value → World → Prop}
theorem run_part_ints {e : TypeId} {k k' : IntKind} (he : P.underlying e = some (.int k')) {xs : List Nat} {i : Nat} (h : i < xs.length) : (part e (ints k xs).toArray i).run P w = .ok (.int k ((xs[i] : Nat) : Int)) w := by
  have hg : (ints k xs).toArray[i]? = some (.int k ((xs[i] : Nat) : Int)) := by simpa using ints_get h
  simp [part, run_isAgg he, aggD, hg]
theorem run_eqItems_ints {e : TypeId} {k k' : IntKind} {d : Nat} (he : P.underlying e = some (.int k')) {xs ys : List Nat} : ∀ is : List Nat, (∀ i ∈ is, i < xs.length ∧ i < ys.length) →
    ∃ r, (Op.eqItems (d + 1) e 1 (ints k xs).toArray (ints k ys).toArray is).run P w = .ok r w ∧ (r = true ↔ ∀ i ∈ is, xs.getD i 0 = ys.getD i 0)
  | [], _ => ⟨true, by simp [Op.eqItems], by simp⟩
  | i :: is, h => by
    have hi := h i List.mem_cons_self
    obtain ⟨r, hr, hiff⟩ := run_eqItems_ints (k := k) (d := d) he is (fun j hj => h j (List.mem_cons_of_mem _ hj))
    have hx : xs.getD i 0 = xs[i]'hi.1 := by simp [List.getD_eq_getElem?_getD, hi.1]
    have hy : ys.getD i 0 = ys[i]'hi.2 := by simp [List.getD_eq_getElem?_getD, hi.2]
    have he2 : (Op.equalIn (d + 1) e (.int k ((xs[i]'hi.1 : Nat) : Int)) (.int k ((ys[i]'hi.2 : Nat) : Int))).run P w = .ok (decide (xs[i]'hi.1 = ys[i]'hi.2)) w := by
      simp [Op.equalIn, run_underlying he]
      rw [Bool.eq_iff_iff, beq_iff_eq, decide_eq_true_iff]; exact Int.ofNat_inj
    by_cases hc : xs[i]'hi.1 = ys[i]'hi.2
    · refine ⟨r, ?_, ?_⟩
      · simp only [Op.eqItems, Nat.mul_one, Sem.run_bind, run_part_ints he hi.1, run_part_ints he hi.2, Result.andThen_ok, he2]
        simp [hc, hr]
      · rw [hiff]; simp only [List.mem_cons, forall_eq_or_imp, hx, hy, hc, true_and]
    · refine ⟨false, ?_, ?_⟩
      · simp only [Op.eqItems, Nat.mul_one, Sem.run_bind, run_part_ints he hi.1, run_part_ints he hi.2, Result.andThen_ok, he2]
        simp [hc]
      · simp only [List.mem_cons, forall_eq_or_imp, hx, hy, hc, false_and, Bool.false_eq_true]
/-- Two arrays of integers compared. -/
theorem OpY.eqlArr {t u e : TypeId} {a b : Operand} {k k' : IntKind} {n : Nat} {xs ys : List Nat} {by' : Nat} {z : Value} (ht : P.underlying t = some (.array n e)) (he : P.underlying e = some (.int k')) (ti : TI P e 1 by' z) (hc : P.cellsOf e = 1)
    (hx : ρ a = .agg (ints k xs).toArray) (hy : ρ b = .agg (ints k ys).toArray) (hxl : xs.length = n) (hyl : ys.length = n) (hgd : P.eqGuardType P.depth t = false) (h : R (.bool (decide (xs = ys))) w) : OpY P (.binOp .eql t a b u) ty ρ w R := by
  obtain ⟨inf, hi, _⟩ := ti
  obtain ⟨r, hr, hiff⟩ := run_eqItems_ints (P := P) (w := w) (k := k) (d := 9998) he (xs := xs) (ys := ys) (List.range n) (fun i hi => by have := List.mem_range.1 hi; omega)
  have hrr : r = decide (xs = ys) := by
    rw [Bool.eq_iff_iff, hiff, decide_eq_true_iff]
    constructor
    · intro hall
      refine List.ext_getElem (by omega) fun i h1 h2 => ?_
      have := hall i (List.mem_range.2 (by omega))
      simpa [List.getD_eq_getElem?_getD, h1, h2] using this
    · rintro rfl _ _; rfl
  have hq : (Op.equal t (.agg (ints k xs).toArray) (.agg (ints k ys).toArray)).run P w = .ok r w := by
    show (Op.equalIn (9999 + 1) t _ _).run P w = _
    rw [run_equalIn_array w 9999 _ _ ht hi, hc]; exact hr
  simp only [OpY, bareOp, execOp, hx, hy]
  simp only [binOp, eqGuard]
  simp [hgd, hq, upon]
  rw [hrr]; exact h
/-- An array literal without elements. -/
theorem OpY.buildZero {t e : TypeId} {n sz by' sz' by'' : Nat} {z z' : Value} {cs : Array Value} (ht : P.underlying t = some (.array n e)) (ti : TI P t sz by' z) (te : TI P e sz' by'' z') (hz : z.cells = cs) (h : R (.agg cs) w) : OpY P (.build t #[]) ty ρ w R := by
  obtain ⟨i, hi, _, _, hzz⟩ := ti
  obtain ⟨j, hj, _, _, _⟩ := te
  simp only [OpY, bareOp, execOp]
  simp [Instr.build, zeroValue, typeInfo, hi, hzz, run_underlying ht, sizeOf, hj, Instr.fill, hz, upon]
  exact h
end
end Go.X
