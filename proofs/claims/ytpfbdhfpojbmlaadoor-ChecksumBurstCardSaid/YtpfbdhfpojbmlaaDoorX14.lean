/- The closing step for arrays of integers. -/
import Derived.Test.YtpfbdhfpojbmlaaDoorX11
namespace Go.X
open Go.ChangeShapes Go.WideShapes Go.ChangeAt Go.RowKit
section
variable {H : Type} {enc : TypeId × Value → H} {P : Program} {W : World}
/-- What an array of unsigned integers holds. -/
theorem trod_nats {t e : TypeId} {k : IntKind} {n L : Nat} {base : Nat} {sp : Nat → Bool} {held : Bool} {fuel : Nat} {cs : List Value} {x : DataW H × List MemPlace} (ht : P.underlying t = some (.array n e)) (he : P.underlying e = some (.int k)) (hc : P.cellsOf e = 1) (hcn : P.cellsOf t = n)
    (hk : ∀ z : Int, (Lit.int k z).wf = true → 0 ≤ z ∧ z < (L : Int)) (h : DataW.trod enc P W base sp held fuel t cs = some x) : ∃ xs : List Nat, cs = ints k xs ∧ xs.length = n ∧ ∀ y ∈ xs, y < L := by
  obtain ⟨ys, m, rfl, -, hl, hyl, hy⟩ := DataW.trod_array ht h
  rw [hc] at hy
  rw [hcn] at hl
  have each : ∀ i, i < n → ∃ z : Nat, cs[i]? = some (.int k (z : Int)) ∧ z < L := by
    intro i hi
    have h1 := hy i hi
    have h2 : i < ys.length := by omega
    rw [List.getElem?_eq_getElem h2] at h1
    obtain ⟨z, hz, -, hw⟩ := DataW.trod_int he h1
    have h3 := hk z hw
    have h4 := congrArg (·[0]?) hz
    simp only [List.getElem?_take, List.getElem?_drop, Nat.mul_one, Nat.add_zero, List.getElem?_cons_zero] at h4
    refine ⟨z.toNat, ?_, by omega⟩
    rw [Int.toNat_of_nonneg h3.1]
    simpa using h4
  clear hy h
  have key : ∀ (cs : List Value), (∀ i, i < cs.length → ∃ z : Nat, cs[i]? = some (.int k (z : Int)) ∧ z < L) → ∃ xs : List Nat, cs = ints k xs ∧ ∀ y ∈ xs, y < L := by
    intro cs
    induction cs with
    | nil => intro _; exact ⟨[], rfl, fun _ hx => by cases hx⟩
    | cons c r ih =>
      intro hall
      obtain ⟨z, hz, hzl⟩ := hall 0 (by simp)
      obtain ⟨xs, hxs, hxl⟩ := ih (fun i hi => by simpa using hall (i + 1) (by simpa using hi))
      have hcz : c = .int k (z : Int) := by simpa using hz
      exact ⟨z :: xs, by rw [hcz, hxs]; rfl, fun y hy => by rcases List.mem_cons.1 hy with rfl | hy; · exact hzl
                                                            · exact hxl y hy⟩
  obtain ⟨xs, hxs, hxl⟩ := key cs (fun i hi => each i (by omega))
  refine ⟨xs, hxs, ?_, hxl⟩
  have := congrArg List.length hxs
  rw [ints_length] at this
  omega
theorem open_arr {t e : TypeId} {k : IntKind} {n L : Nat} {v : Value} {d : DataW H} {ps : List MemPlace} (ht : P.underlying t = some (.array n e)) (he : P.underlying e = some (.int k)) (hc : P.cellsOf e = 1) (hcn : P.cellsOf t = n)
    (hk : ∀ z : Int, (Lit.int k z).wf = true → 0 ≤ z ∧ z < (L : Int)) {r : Reach} {base : Nat} (hval : Value.okWide P W r base t v) (h : DataW.Trod enc P W 0 (fun _ => true) true t v d ps) :
    ∃ xs : List Nat, v = .agg (ints k xs).toArray ∧ xs.length = n ∧ ∀ y ∈ xs, y < L := by
  obtain ⟨m, hm⟩ := h
  obtain ⟨xs, hxs, hl, hx⟩ := trod_nats ht he hc hcn hk hm
  have hv : ∃ cs, v = .agg cs := by
    unfold Value.okWide at hval
    rw [ht] at hval
    obtain ⟨cs, hcs, _⟩ := hval
    exact ⟨cs, hcs⟩
  obtain ⟨cs, rfl⟩ := hv
  refine ⟨xs, ?_, hl, hx⟩
  rw [show cs = (ints k xs).toArray from by rw [← hxs]; simp [Value.cells]]
end
end Go.X
