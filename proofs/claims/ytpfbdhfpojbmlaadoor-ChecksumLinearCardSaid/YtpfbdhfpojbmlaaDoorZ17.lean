/-
  Arguments that hold arrays or texts, opened. Plain theorems over any program.
-/
import Derived.Test.YtpfbdhfpojbmlaaDoorZ8
import Derived.OpenShut
import Derived.ChangeMaps5
set_option linter.unusedSimpArgs false
set_option linter.unusedVariables false
namespace Go.X
open Go Go.RowKit
section
variable {H : Type} {enc : TypeId × Value → H} {P : Program} {W : World}
theorem trod_elems {t e : TypeId} {n fuel : Nat} {cs : List Value} {x : DataW H × List MemPlace} (ht : P.underlying t = some (.array n e)) (h : DataW.trod enc P W 0 (fun _ => true) true fuel t cs = some x) :
    cs.length = P.cellsOf t ∧ ∃ m, m < fuel ∧ ∀ (i : Nat), i < n → ∃ y, DataW.trod enc P W 0 (fun _ => true) true m e ((cs.drop (i * P.cellsOf e)).take (P.cellsOf e)) = some y := by
  obtain ⟨xs, m, hm, _, hl, hxl, hf⟩ := DataW.trod_array ht h
  refine ⟨hl, m, by omega, fun i hi => ?_⟩
  exact ⟨_, (hf i hi).trans (List.getElem?_eq_getElem (by omega))⟩
theorem Opn.str {N : Nat} {t : TypeId} (ht : P.underlying t = some .string) : Opn enc P W N rStr t (fun _ => True) := by
  intro fuel _ cs x h
  obtain ⟨s, rfl, _, _⟩ := DataW.trod_string ht h
  refine ⟨s.data.toList, ?_, trivial⟩
  show [Value.string s] = [Value.string (s8 s.data.toList)]
  rw [← s8_of]
end
end Go.X
