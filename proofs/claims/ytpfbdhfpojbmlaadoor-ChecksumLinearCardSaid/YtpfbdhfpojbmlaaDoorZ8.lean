/-
  Opening the arguments: what reads as data, reads as a value. Plain theorems over any program.
-/
import Derived.Test.YtpfbdhfpojbmlaaDoorZ7
import Derived.Test.YtpfbdhfpojbmlaaDoorX11
set_option linter.unusedSimpArgs false
set_option linter.unusedVariables false
namespace Go.X
open Go Go.ChangeShapes Go.WideShapes Go.ChangeAt Go.RowKit
section
variable {H : Type} {enc : TypeId × Value → H} {P : Program} {W : World}
/-- the world as the arguments show it -/
noncomputable abbrev HW (W : World) : Hp := Hv W.heap.size (fun _ => True) [] W
theorem cellV {w : World} {b o : Nat} {v : Value} (h : w.cell? ⟨b, o, none⟩ = some v) : cellH (HW w) b o = some v := by
  unfold World.cell? at h
  unfold cellH HW Hv vw
  have hs : HS w.heap.size (fun _ => True) [] b := ⟨.inl trivial, by simp⟩
  rw [if_pos hs]
  cases hb : w.heap[b]? with
  | none => rw [hb] at h; cases h
  | some x =>
    rw [hb] at h
    cases x <;> simp_all
theorem cell_spot {w : World} {a : Addr} {v : Value} (h : w.cell? a = some v) : a.spot = none := by
  unfold World.cell? at h
  split at h
  · split at h
    · cases h
    · rename_i h1; cases hs : a.spot with
      | none => rfl
      | some _ => rw [hs] at h1; simp at h1
  · cases h
def Opn (enc : TypeId × Value → H) (P : Program) (W : World) (N : Nat) {α : Type} (r : Rep α) (t : TypeId) (G : α → Prop) : Prop :=
  ∀ fuel, fuel ≤ N → ∀ cs x, DataW.trod enc P W 0 (fun _ => true) true fuel t cs = some x → ∃ a, r.R (HW W) cs a ∧ G a
theorem Opn.int {N : Nat} {t : TypeId} {k : IntKind} (ht : P.underlying t = some (.int k)) : Opn enc P W N (rInt k) t (fun x => (Lit.int k x).wf = true) := by
  intro fuel _ cs x h
  obtain ⟨n, rfl, _, hw⟩ := DataW.trod_int ht h
  exact ⟨n, rfl, hw⟩
theorem Opn.bool {N : Nat} {t : TypeId} (ht : P.underlying t = some .bool) : Opn enc P W N rBool t (fun _ => True) := by
  intro fuel _ cs x h
  obtain ⟨b, rfl, _⟩ := DataW.trod_bool ht h
  exact ⟨b, rfl, trivial⟩
theorem Opn.imp {N : Nat} {α : Type} {r : Rep α} {t : TypeId} {G G' : α → Prop} (h : Opn enc P W N r t G) (k : ∀ a, G a → G' a) : Opn enc P W N r t G' := fun fuel hf cs x hx => by
  obtain ⟨a, h1, h2⟩ := h fuel hf cs x hx
  exact ⟨a, h1, k a h2⟩
theorem add_plain' (b o n : Nat) : (⟨b, o, none⟩ : Addr).add n = ⟨b, o + n, none⟩ := by unfold Addr.add; split <;> simp_all
theorem Opn.slice {N : Nat} {α : Type} {r : Rep α} {t e : TypeId} {G : α → Prop} (ht : P.underlying t = some (.slice e)) (hc : P.cellsOf e = r.sz) (hz : (r.sz == 0) = false) (he : Opn enc P W N r e G) :
    Opn enc P W (N + 1) (rSl r) t (fun xs => xs.length ≤ 9223372036854775807 ∧ ∀ x ∈ xs, G x) := by
  have hpos : 0 < r.sz := by
    have : ¬ r.sz = 0 := by simpa using hz
    omega
  intro fuel hf cs x h
  rcases DataW.trod_slice ht h with ⟨rfl, rfl⟩ | ⟨a, len, cap, elems, rest, n, hn, rfl, rfl, hb, hl, hm, hlen, hel, hsp, hns⟩
  · exact ⟨[], ⟨_, rfl, Rs.nil⟩, by simp, fun _ hx => by cases hx⟩
  have hcap : cap ≤ 9223372036854775807 := hm
  rcases Nat.eq_zero_or_pos cap with h0 | h0
  · subst h0
    obtain rfl : len = 0 := by omega
    exact ⟨[], ⟨_, rfl, .inl ⟨⟨_, rfl⟩, rfl⟩⟩, by simp, fun _ hx => by cases hx⟩
  have hfirst : ∃ y, (W.cells? 0 (a.add (0 * P.cellsOf e)) (P.cellsOf e)).bind (DataW.trod enc P W 0 (fun _ => true) true n e) = some y := by
    rcases Nat.eq_zero_or_pos len with h1 | h1
    · obtain ⟨hr, hs⟩ := hsp rfl
      have := hs 0 (by omega)
      rw [h1, Nat.zero_add] at this
      exact ⟨_, this.trans (List.getElem?_eq_getElem (by omega))⟩
    · exact ⟨_, (hel 0 h1).trans (List.getElem?_eq_getElem (by omega))⟩
  have hspot : a.spot = none := by
    obtain ⟨y, hy⟩ := hfirst
    rw [Option.bind_eq_some_iff] at hy
    obtain ⟨cs', hcs, -⟩ := hy
    obtain ⟨_, hl', hcell⟩ := World.cells?_some hcs
    have := hcell 0 (by omega)
    rw [List.getElem?_eq_getElem (by omega), Nat.zero_mul] at this
    have := cell_spot this
    simpa [Addr.add] using this
  obtain ⟨b, o, s⟩ := a
  cases hspot
  have each : ∀ i, i < len → ∃ x vs, vs.length = r.sz ∧ At (HW W) b (o + i * r.sz) vs ∧ r.R (HW W) vs x ∧ G x := by
    intro i hi
    have hy := (hel i hi).trans (List.getElem?_eq_getElem (by omega))
    rw [Option.bind_eq_some_iff] at hy
    obtain ⟨vs, hcs, hy⟩ := hy
    obtain ⟨_, hl', hcell⟩ := World.cells?_some hcs
    obtain ⟨x, hR, hG⟩ := he n (by omega) vs _ hy
    refine ⟨x, vs, by omega, fun j hj => ?_, hR, hG⟩
    have := hcell j (by omega)
    rw [List.getElem?_eq_getElem hj] at this ⊢
    rw [hc, add_plain', add_plain'] at this
    exact cellV this
  let xs : List α := List.ofFn (fun i : Fin len => Classical.choose (each i.1 i.2))
  have hxl : xs.length = len := by simp [xs]
  refine ⟨xs, ⟨_, rfl, .inr ⟨b, o, cap, by rw [hxl], by omega, fun i x hi => ?_⟩⟩, by omega, fun x hx => ?_⟩
  · have hil : i < len := by rw [← hxl]; exact (List.getElem?_eq_some_iff.1 hi).1
    have hx : x = Classical.choose (each i hil) := by
      have := (List.getElem?_eq_some_iff.1 hi).2
      simp only [xs, List.getElem_ofFn] at this
      exact this.symm
    subst hx
    obtain ⟨vs, h1, h2, h3, _⟩ := Classical.choose_spec (each i hil)
    exact ⟨vs, h1, h2, h3⟩
  · obtain ⟨i, hi, rfl⟩ := List.mem_iff_getElem.1 hx
    have hil : i < len := by omega
    simp only [xs, List.getElem_ofFn]
    obtain ⟨_, _, _, _, hG⟩ := Classical.choose_spec (each i hil)
    exact hG
theorem Opn.less {N : Nat} {α : Type} {r : Rep α} {t : TypeId} {G : α → Prop} (h : Opn enc P W (N + 1) r t G) : Opn enc P W N r t G := fun fuel hf => h fuel (by omega)
theorem trod_fields {t : TypeId} {fuel : Nat} {cs : List Value} {x : DataW H × List MemPlace} {fs : Array Field} (ht : P.underlying t = some (.struct fs)) (h : DataW.trod enc P W 0 (fun _ => true) true fuel t cs = some x) :
    cs.length = P.cellsOf t ∧ ∃ n, n < fuel ∧ ∀ (i : Nat) (f : Field), fs[i]? = some f → ∃ y, DataW.trod enc P W 0 (fun _ => true) true n f.type ((cs.drop f.offset).take (P.cellsOf f.type)) = some y := by
  obtain ⟨xs, n, hn, _, hl, hxl, hf⟩ := DataW.trod_struct ht h
  refine ⟨hl, n, by omega, fun i f hi => ?_⟩
  have hi' : i < xs.length := by rw [hxl]; exact (Array.getElem?_eq_some_iff.1 hi).1
  exact ⟨_, (hf i f hi).trans (List.getElem?_eq_getElem hi')⟩
theorem open_slice {α : Type} {r : Rep α} {t e : TypeId} {G : List α → Prop} {v : Value} {d : DataW H} {ps : List MemPlace} (ht : P.underlying t = some (.slice e)) (ho : ∀ N, Opn enc P W N (rSl r) t G) {rc : Reach} {base : Nat} (hval : Value.okWide P W rc base t v) (h : DataW.Trod enc P W 0 (fun _ => true) true t v d ps) :
    ∃ xs, Rs r (HW W) v xs ∧ G xs := by
  obtain ⟨n, hn⟩ := h
  obtain ⟨xs, ⟨v', hv', hR⟩, hG⟩ := ho n n (Nat.le_refl _) _ _ hn
  have : v = v' := by
    cases v <;> simp_all [Value.okWide, Cell.okWide, Cell.ok, Value.cells]
  subst this
  exact ⟨xs, hR, hG⟩
theorem open_struct {α : Type} {r : Rep α} {t : TypeId} {fs : Array Field} {G : α → Prop} {v : Value} {d : DataW H} {ps : List MemPlace} (ht : P.underlying t = some (.struct fs)) (ho : ∀ N, Opn enc P W N r t G) {rc : Reach} {base : Nat} (hval : Value.okWide P W rc base t v) (h : DataW.Trod enc P W 0 (fun _ => true) true t v d ps) :
    ∃ cs x, v = .agg cs.toArray ∧ r.R (HW W) cs x ∧ G x := by
  obtain ⟨n, hn⟩ := h
  obtain ⟨x, hR, hG⟩ := ho n n (Nat.le_refl _) _ _ hn
  simp only [Value.okWide, ht] at hval
  obtain ⟨cs, rfl, _⟩ := hval
  exact ⟨cs.toList, x, by simp, by simpa [Value.cells] using hR, hG⟩
end
end Go.X
