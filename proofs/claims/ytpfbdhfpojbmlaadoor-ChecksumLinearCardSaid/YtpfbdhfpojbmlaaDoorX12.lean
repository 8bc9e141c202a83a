/- Tables that a row lists: what they hold. -/
import Derived.Test.YtpfbdhfpojbmlaaDoorX11
import Derived.Lib.LaidU8
set_option linter.unusedSimpArgs false
set_option linter.unusedVariables false
namespace Go.X
/-- A listed array of integers, wherever it stands on the list: its cell i. -/
theorem tab_at {P : Program} {W : World} {l : List (String × DataW Unit)} {name : String} {k : IntKind} {zs : List Int} {g : Nat} {t e : TypeId} {n : Nat} (h : laidMet P l W) (hm : (name, Lib.tabData k zs) ∈ l)
    (hg : P.globalNamed name = some g) (hty : (P.globals[g]?).map (·.type) = some t) (ht : P.underlying t = some (.array n e)) (he : P.underlying e = some (.int k)) (hce : P.cellsOf e = 1) (hct : P.cellsOf t = n)
    (i : Nat) (hi : i < zs.length) : At (view [] W) g i [.int k (zs.getD i 0)] := by
  obtain ⟨g', t', cs, fuel, p, hg', ht', hvar, hd⟩ := Lib.laidMet.reads h hm
  obtain rfl := Option.some.inj (hg.symm.trans hg')
  obtain rfl := Option.some.inj (hty.symm.trans ht')
  have hT : Lib.TabIs P W name k zs := by
    unfold Lib.TabIs
    rw [hvar, ← Lib.cells_of_tab ht he hce hct hd]
  intro j hj
  have hj0 : j = 0 := by simpa using hj
  subst hj0
  exact cellH_cell (hT.cell hg i hi)
/-- The cells of a listed array. -/
def litCells : DataW Unit → Array Value
  | .agg ds => (ds.map fun | .lit (.int k n) => Value.int k n | _ => .bool false).toArray
  | _ => #[]
/-- A world that holds the listed arrays. -/
def laying (w : World) : List (Nat × DataW Unit) → World
  | [] => w
  | (g, d) :: r => laying { w with heap := w.heap.modify g fun | .cells _ t fr => .cells (litCells d) t fr | o => o } r
end Go.X
