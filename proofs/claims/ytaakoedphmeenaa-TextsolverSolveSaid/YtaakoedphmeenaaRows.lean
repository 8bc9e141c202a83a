/-
  No cell of these rows narrows 'for every input' (looked for: loops, veiled, ifaces, maps, wideKeys, modest, calm, conditions, laid).
  DERIVED. THE GIVEN ROWS OF THIS SEAT. 8 by the template 'for every input the law returns true; each argument reads behind the call as it read before'; 0 by the template 'total and deterministic' (their statements: YtaakoedphmeenaaTotals.lean).
  GIVEN WITH THE SEED: the statements are not yours to turn. If you find one false, say at which input.
  Laid BY PROGRAM, IN A SANDBOX (cutbox-rows.mjs): the forced cells as the released guide's own fill.sh prints them over the translation e0c8df5b55ddc94a… (all of the seat's roots in one cut). By AI agents, Wed Nov 11 2026. No macro, syntax, notation, axiom, sorry.
-/
import Derived.Test.YtaakoedphmeenaaChecked
import GoSem.Claim
import GoSem.ClaimJoined
import GoSem.ClaimMapViews
import Derived.JoinedTies
import Derived.KernelRfl
namespace Go.Proofs.Ytaakoedphmeenaa
/- THE CELL 'sum', in the pinned program and in every row, IS THE sha256 OF THE DUMP (.gsa) THAT YtaakoedphmeenaaProg.lean LOADS. Nothing in Lean hashes anything: it is a label: what it is worth is what the hold of that sum in a sandbox is worth. -/
noncomputable def Try.pinned : Pinned := { name := "ytaakoedphmeenaa", sum := "e0c8df5b55ddc94a0a40d7c7ad18da5d01b56f1844755898288ec5d7753e8455", checked := Try.checked }
namespace Rows
def none {H : Type} : Left H := { results := [], args := [] }

/-- 'disjointlaw22.TextsolverSatisfies': WHATEVER THE INPUT: true; the input reads as it did. -/
def textsolverSatisfiesSpec : ChangeSpec := { name := "textsolverSatisfies", fn := fun _ => fun
  | [d1, d2] => { results := [.lit (.bool true)], args := [d1, d2] }
  | _ => none }
def textsolverSatisfiesRow : OpenClaim := { program := "ytaakoedphmeenaa", sum := "e0c8df5b55ddc94a0a40d7c7ad18da5d01b56f1844755898288ec5d7753e8455", func := "disjoint/disjointlaw22.TextsolverSatisfies", spec := "textsolverSatisfies", unfollowed := true, recurses := true, apart := false }
def TextsolverSatisfiesSaid : Prop := textsolverSatisfiesRow.holds Try.pinned (OpenSpec.ofChange textsolverSatisfiesSpec)

/-- ITS FALSE NEIGHBOUR: 'it returns false'. Refute it at one input. -/
def textsolverSatisfiesWrong : ChangeSpec := { name := "textsolverSatisfies", fn := fun _ => fun
  | [d1, d2] => { results := [.lit (.bool false)], args := [d1, d2] }
  | _ => none }
def TextsolverSatisfiesWrongFalsely : Prop := textsolverSatisfiesRow.holds Try.pinned (OpenSpec.ofChange textsolverSatisfiesWrong)

/-- 'disjointlaw22.TextsolverSolve': WHATEVER THE INPUT: true; the input reads as it did. -/
def textsolverSolveSpec : ChangeSpec := { name := "textsolverSolve", fn := fun _ => fun
  | [d] => { results := [.lit (.bool true)], args := [d] }
  | _ => none }
def textsolverSolveRow : OpenClaim := { program := "ytaakoedphmeenaa", sum := "e0c8df5b55ddc94a0a40d7c7ad18da5d01b56f1844755898288ec5d7753e8455", func := "disjoint/disjointlaw22.TextsolverSolve", spec := "textsolverSolve", unfollowed := true, recurses := true, apart := false }
def TextsolverSolveSaid : Prop := textsolverSolveRow.holds Try.pinned (OpenSpec.ofChange textsolverSolveSpec)

/-- ITS FALSE NEIGHBOUR: 'it returns false'. Refute it at one input. -/
def textsolverSolveWrong : ChangeSpec := { name := "textsolverSolve", fn := fun _ => fun
  | [d] => { results := [.lit (.bool false)], args := [d] }
  | _ => none }
def TextsolverSolveWrongFalsely : Prop := textsolverSolveRow.holds Try.pinned (OpenSpec.ofChange textsolverSolveWrong)

/-- 'disjointlaw22.TextsolverSolution': WHATEVER THE INPUT: true; the input reads as it did. -/
def textsolverSolutionSpec : ChangeSpec := { name := "textsolverSolution", fn := fun _ => fun
  | [d] => { results := [.lit (.bool true)], args := [d] }
  | _ => none }
def textsolverSolutionRow : OpenClaim := { program := "ytaakoedphmeenaa", sum := "e0c8df5b55ddc94a0a40d7c7ad18da5d01b56f1844755898288ec5d7753e8455", func := "disjoint/disjointlaw22.TextsolverSolution", spec := "textsolverSolution", unfollowed := true, recurses := true, apart := false }
def TextsolverSolutionSaid : Prop := textsolverSolutionRow.holds Try.pinned (OpenSpec.ofChange textsolverSolutionSpec)

/-- ITS FALSE NEIGHBOUR: 'it returns false'. Refute it at one input. -/
def textsolverSolutionWrong : ChangeSpec := { name := "textsolverSolution", fn := fun _ => fun
  | [d] => { results := [.lit (.bool false)], args := [d] }
  | _ => none }
def TextsolverSolutionWrongFalsely : Prop := textsolverSolutionRow.holds Try.pinned (OpenSpec.ofChange textsolverSolutionWrong)

/-- 'disjointlaw22.TextsolverComplete': WHATEVER THE INPUT: true; the input reads as it did. -/
def textsolverCompleteSpec : ChangeSpec := { name := "textsolverComplete", fn := fun _ => fun
  | [d1, d2] => { results := [.lit (.bool true)], args := [d1, d2] }
  | _ => none }
def textsolverCompleteRow : OpenClaim := { program := "ytaakoedphmeenaa", sum := "e0c8df5b55ddc94a0a40d7c7ad18da5d01b56f1844755898288ec5d7753e8455", func := "disjoint/disjointlaw22.TextsolverComplete", spec := "textsolverComplete", unfollowed := true, recurses := true, apart := false }
def TextsolverCompleteSaid : Prop := textsolverCompleteRow.holds Try.pinned (OpenSpec.ofChange textsolverCompleteSpec)

/-- ITS FALSE NEIGHBOUR: 'it returns false'. Refute it at one input. -/
def textsolverCompleteWrong : ChangeSpec := { name := "textsolverComplete", fn := fun _ => fun
  | [d1, d2] => { results := [.lit (.bool false)], args := [d1, d2] }
  | _ => none }
def TextsolverCompleteWrongFalsely : Prop := textsolverCompleteRow.holds Try.pinned (OpenSpec.ofChange textsolverCompleteWrong)

/-- 'disjointlaw22.TextsolverClasses': WHATEVER THE INPUT: true; the input reads as it did. -/
def textsolverClassesSpec : ChangeSpec := { name := "textsolverClasses", fn := fun _ => fun
  | [d] => { results := [.lit (.bool true)], args := [d] }
  | _ => none }
def textsolverClassesRow : OpenClaim := { program := "ytaakoedphmeenaa", sum := "e0c8df5b55ddc94a0a40d7c7ad18da5d01b56f1844755898288ec5d7753e8455", func := "disjoint/disjointlaw22.TextsolverClasses", spec := "textsolverClasses", unfollowed := true, recurses := true, apart := false }
def TextsolverClassesSaid : Prop := textsolverClassesRow.holds Try.pinned (OpenSpec.ofChange textsolverClassesSpec)

/-- ITS FALSE NEIGHBOUR: 'it returns false'. Refute it at one input. -/
def textsolverClassesWrong : ChangeSpec := { name := "textsolverClasses", fn := fun _ => fun
  | [d] => { results := [.lit (.bool false)], args := [d] }
  | _ => none }
def TextsolverClassesWrongFalsely : Prop := textsolverClassesRow.holds Try.pinned (OpenSpec.ofChange textsolverClassesWrong)

/-- 'disjointlaw22.TextsolverLengths': WHATEVER THE INPUT: true; the input reads as it did. -/
def textsolverLengthsSpec : ChangeSpec := { name := "textsolverLengths", fn := fun _ => fun
  | [d1, d2] => { results := [.lit (.bool true)], args := [d1, d2] }
  | _ => none }
def textsolverLengthsRow : OpenClaim := { program := "ytaakoedphmeenaa", sum := "e0c8df5b55ddc94a0a40d7c7ad18da5d01b56f1844755898288ec5d7753e8455", func := "disjoint/disjointlaw22.TextsolverLengths", spec := "textsolverLengths", unfollowed := true, recurses := true, apart := false }
def TextsolverLengthsSaid : Prop := textsolverLengthsRow.holds Try.pinned (OpenSpec.ofChange textsolverLengthsSpec)

/-- ITS FALSE NEIGHBOUR: 'it returns false'. Refute it at one input. -/
def textsolverLengthsWrong : ChangeSpec := { name := "textsolverLengths", fn := fun _ => fun
  | [d1, d2] => { results := [.lit (.bool false)], args := [d1, d2] }
  | _ => none }
def TextsolverLengthsWrongFalsely : Prop := textsolverLengthsRow.holds Try.pinned (OpenSpec.ofChange textsolverLengthsWrong)

/-- 'disjointlaw22.TextsolverMonotone': WHATEVER THE INPUT: true; the input reads as it did. -/
def textsolverMonotoneSpec : ChangeSpec := { name := "textsolverMonotone", fn := fun _ => fun
  | [d1, d2, d3] => { results := [.lit (.bool true)], args := [d1, d2, d3] }
  | _ => none }
def textsolverMonotoneRow : OpenClaim := { program := "ytaakoedphmeenaa", sum := "e0c8df5b55ddc94a0a40d7c7ad18da5d01b56f1844755898288ec5d7753e8455", func := "disjoint/disjointlaw22.TextsolverMonotone", spec := "textsolverMonotone", unfollowed := true, recurses := true, apart := false }
def TextsolverMonotoneSaid : Prop := textsolverMonotoneRow.holds Try.pinned (OpenSpec.ofChange textsolverMonotoneSpec)

/-- ITS FALSE NEIGHBOUR: 'it returns false'. Refute it at one input. -/
def textsolverMonotoneWrong : ChangeSpec := { name := "textsolverMonotone", fn := fun _ => fun
  | [d1, d2, d3] => { results := [.lit (.bool false)], args := [d1, d2, d3] }
  | _ => none }
def TextsolverMonotoneWrongFalsely : Prop := textsolverMonotoneRow.holds Try.pinned (OpenSpec.ofChange textsolverMonotoneWrong)

/-- 'disjointlaw22.TextsolverValid': WHATEVER THE INPUT: true; the input reads as it did. -/
def textsolverValidSpec : ChangeSpec := { name := "textsolverValid", fn := fun _ => fun
  | [d] => { results := [.lit (.bool true)], args := [d] }
  | _ => none }
def textsolverValidRow : OpenClaim := { program := "ytaakoedphmeenaa", sum := "e0c8df5b55ddc94a0a40d7c7ad18da5d01b56f1844755898288ec5d7753e8455", func := "disjoint/disjointlaw22.TextsolverValid", spec := "textsolverValid", unfollowed := true, recurses := true, apart := false }
def TextsolverValidSaid : Prop := textsolverValidRow.holds Try.pinned (OpenSpec.ofChange textsolverValidSpec)

/-- ITS FALSE NEIGHBOUR: 'it returns false'. Refute it at one input. -/
def textsolverValidWrong : ChangeSpec := { name := "textsolverValid", fn := fun _ => fun
  | [d] => { results := [.lit (.bool false)], args := [d] }
  | _ => none }
def TextsolverValidWrongFalsely : Prop := textsolverValidRow.holds Try.pinned (OpenSpec.ofChange textsolverValidWrong)

/- THE SECOND FORM. 'bulk': how many values and letters a reading holds, each counted each time it is reached (what is shared counts as often as it is met; a slice's spare places count too). A statement '..UptoSaid' is the law's where the arguments, and the package variables that the reading takes, are together of bulk at most 1048576: NARROWER than '..Said'. Prove '..Said' where nothing that the law and all that it calls make is longer than what came in: it says more and counts as full. Else prove '..UptoSaid'. A law counts once. -/
mutual
def uptoBulk {H : Type} : DataW H → Nat
  | .lit (.string bytes) => bytes.length + 1
  | .lit _ => 1
  | .nil => 1
  | .ptr d => uptoBulk d + 1
  | .slice elems spare => uptoBulkAll elems + uptoBulkAll spare + 1
  | .agg parts => uptoBulkAll parts + 1
  | .iface _ d => uptoBulk d + 1
  | .map entries => uptoBulkEntries entries + 1
  | .held _ => 1
def uptoBulkAll {H : Type} : List (DataW H) → Nat
  | [] => 0
  | d :: r => uptoBulk d + uptoBulkAll r
def uptoBulkEntries {H : Type} : List (Lit × DataW H) → Nat
  | [] => 0
  | x :: r => uptoBulkEntry x + uptoBulkEntries r
def uptoBulkEntry {H : Type} : Lit × DataW H → Nat
  | (.string bytes, d) => bytes.length + uptoBulk d + 1
  | (_, d) => uptoBulk d + 1
 end
def uptoSmall : (H : Type) → List (DataW H) → Bool := fun _ ds => decide (uptoBulkAll ds ≤ 1048576)
def OpenSpec.upto (s : _root_.Go.ChangeSpec) : _root_.Go.OpenSpec := { _root_.Go.OpenSpec.ofChange s with cond := some uptoSmall }

/-- 'disjointlaw22.TextsolverSatisfies', WHERE WHAT IT READS IS OF BULK AT MOST 1048576: true; the input reads as it did. -/
def textsolverSatisfiesUptoRow : OpenClaim := { program := "ytaakoedphmeenaa", sum := "e0c8df5b55ddc94a0a40d7c7ad18da5d01b56f1844755898288ec5d7753e8455", func := "disjoint/disjointlaw22.TextsolverSatisfies", spec := "textsolverSatisfies", unfollowed := true, recurses := true, apart := false, narrowed := true }
def TextsolverSatisfiesUptoSaid : Prop := textsolverSatisfiesUptoRow.holds Try.pinned (OpenSpec.upto textsolverSatisfiesSpec)

/-- 'disjointlaw22.TextsolverSolve', WHERE WHAT IT READS IS OF BULK AT MOST 1048576: true; the input reads as it did. -/
def textsolverSolveUptoRow : OpenClaim := { program := "ytaakoedphmeenaa", sum := "e0c8df5b55ddc94a0a40d7c7ad18da5d01b56f1844755898288ec5d7753e8455", func := "disjoint/disjointlaw22.TextsolverSolve", spec := "textsolverSolve", unfollowed := true, recurses := true, apart := false, narrowed := true }
def TextsolverSolveUptoSaid : Prop := textsolverSolveUptoRow.holds Try.pinned (OpenSpec.upto textsolverSolveSpec)

/-- 'disjointlaw22.TextsolverSolution', WHERE WHAT IT READS IS OF BULK AT MOST 1048576: true; the input reads as it did. -/
def textsolverSolutionUptoRow : OpenClaim := { program := "ytaakoedphmeenaa", sum := "e0c8df5b55ddc94a0a40d7c7ad18da5d01b56f1844755898288ec5d7753e8455", func := "disjoint/disjointlaw22.TextsolverSolution", spec := "textsolverSolution", unfollowed := true, recurses := true, apart := false, narrowed := true }
def TextsolverSolutionUptoSaid : Prop := textsolverSolutionUptoRow.holds Try.pinned (OpenSpec.upto textsolverSolutionSpec)

/-- 'disjointlaw22.TextsolverComplete', WHERE WHAT IT READS IS OF BULK AT MOST 1048576: true; the input reads as it did. -/
def textsolverCompleteUptoRow : OpenClaim := { program := "ytaakoedphmeenaa", sum := "e0c8df5b55ddc94a0a40d7c7ad18da5d01b56f1844755898288ec5d7753e8455", func := "disjoint/disjointlaw22.TextsolverComplete", spec := "textsolverComplete", unfollowed := true, recurses := true, apart := false, narrowed := true }
def TextsolverCompleteUptoSaid : Prop := textsolverCompleteUptoRow.holds Try.pinned (OpenSpec.upto textsolverCompleteSpec)

/-- 'disjointlaw22.TextsolverClasses', WHERE WHAT IT READS IS OF BULK AT MOST 1048576: true; the input reads as it did. -/
def textsolverClassesUptoRow : OpenClaim := { program := "ytaakoedphmeenaa", sum := "e0c8df5b55ddc94a0a40d7c7ad18da5d01b56f1844755898288ec5d7753e8455", func := "disjoint/disjointlaw22.TextsolverClasses", spec := "textsolverClasses", unfollowed := true, recurses := true, apart := false, narrowed := true }
def TextsolverClassesUptoSaid : Prop := textsolverClassesUptoRow.holds Try.pinned (OpenSpec.upto textsolverClassesSpec)

/-- 'disjointlaw22.TextsolverLengths', WHERE WHAT IT READS IS OF BULK AT MOST 1048576: true; the input reads as it did. -/
def textsolverLengthsUptoRow : OpenClaim := { program := "ytaakoedphmeenaa", sum := "e0c8df5b55ddc94a0a40d7c7ad18da5d01b56f1844755898288ec5d7753e8455", func := "disjoint/disjointlaw22.TextsolverLengths", spec := "textsolverLengths", unfollowed := true, recurses := true, apart := false, narrowed := true }
def TextsolverLengthsUptoSaid : Prop := textsolverLengthsUptoRow.holds Try.pinned (OpenSpec.upto textsolverLengthsSpec)

/-- 'disjointlaw22.TextsolverMonotone', WHERE WHAT IT READS IS OF BULK AT MOST 1048576: true; the input reads as it did. -/
def textsolverMonotoneUptoRow : OpenClaim := { program := "ytaakoedphmeenaa", sum := "e0c8df5b55ddc94a0a40d7c7ad18da5d01b56f1844755898288ec5d7753e8455", func := "disjoint/disjointlaw22.TextsolverMonotone", spec := "textsolverMonotone", unfollowed := true, recurses := true, apart := false, narrowed := true }
def TextsolverMonotoneUptoSaid : Prop := textsolverMonotoneUptoRow.holds Try.pinned (OpenSpec.upto textsolverMonotoneSpec)

/-- 'disjointlaw22.TextsolverValid', WHERE WHAT IT READS IS OF BULK AT MOST 1048576: true; the input reads as it did. -/
def textsolverValidUptoRow : OpenClaim := { program := "ytaakoedphmeenaa", sum := "e0c8df5b55ddc94a0a40d7c7ad18da5d01b56f1844755898288ec5d7753e8455", func := "disjoint/disjointlaw22.TextsolverValid", spec := "textsolverValid", unfollowed := true, recurses := true, apart := false, narrowed := true }
def TextsolverValidUptoSaid : Prop := textsolverValidUptoRow.holds Try.pinned (OpenSpec.upto textsolverValidSpec)

end Rows
end Go.Proofs.Ytaakoedphmeenaa
