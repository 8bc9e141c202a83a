/-
  NARROWER THAN 'FOR EVERY INPUT', by the rows' own cells (each row's printed sentence says how): AutomatonShortest: laid · AutomatonAccepts: laid · AutomatonMinimize: laid · AutomatonEquivalent: laid · AutomatonAtMost: laid · AutomatonAnd: laid · AutomatonNot: laid · AutomatonAlgebra: laid.
  DERIVED. THE GIVEN ROWS OF THIS SEAT. 8 by the template 'for every input the law returns true; each argument reads behind the call as it read before'; 0 by the template 'total and deterministic' (their statements: YtckhldmpcddjmaaDoorTotals.lean).
  GIVEN WITH THE SEED: the statements are not yours to turn. If you find one false, say at which input.
  Laid BY PROGRAM, IN A SANDBOX (cutbox-rows.mjs): the forced cells as the released guide's own fill.sh prints them over the translation b26567e052d9bfe0… (all of the seat's roots in one cut). By AI agents, Wed Nov 11 2026. No macro, syntax, notation, axiom, sorry.
-/
import Derived.Test.YtckhldmpcddjmaaDoorChecked
import GoSem.Claim
import GoSem.ClaimJoined
import GoSem.ClaimMapViews
import Derived.JoinedTies
import Derived.KernelRfl
namespace Go.Proofs.YtckhldmpcddjmaaDoor
/- THE CELL 'sum', in the pinned program and in every row, IS THE sha256 OF THE DUMP (.gsa) THAT YtckhldmpcddjmaaDoorProg.lean LOADS. Nothing in Lean hashes anything: it is a label: what it is worth is what the hold of that sum in a sandbox is worth. -/
noncomputable def Tryd.pinned : Pinned := { name := "ytckhldmpcddjmaadoor", sum := "b26567e052d9bfe03bb1928e2f6af985199b42fba845ecc37ba9834a6cede531", checked := Tryd.checked }
namespace Rows
def none {H : Type} : Left H := { results := [], args := [] }

/- WHAT THE LISTED PACKAGE-LEVEL VARIABLES READ AS WHEN THE CALL BEGINS. Each datum BY PROGRAM (the guide's laid-datum.mjs) off the statement by which the dump's own 'gosem.cut.vars' lays the variable. In a bare row this is a premise. The card (YtckhldmpcddjmaaDoorCards.lean) ties it to the program's text. -/
def laid_math_bits_deBruijn32tab {H : Type} : DataW H := .agg [.lit (.int .u8 0), .lit (.int .u8 1), .lit (.int .u8 28), .lit (.int .u8 2), .lit (.int .u8 29), .lit (.int .u8 14), .lit (.int .u8 24), .lit (.int .u8 3), .lit (.int .u8 30), .lit (.int .u8 22), .lit (.int .u8 20), .lit (.int .u8 15), .lit (.int .u8 25), .lit (.int .u8 17), .lit (.int .u8 4), .lit (.int .u8 8), .lit (.int .u8 31), .lit (.int .u8 27), .lit (.int .u8 13), .lit (.int .u8 23), .lit (.int .u8 21), .lit (.int .u8 19), .lit (.int .u8 16), .lit (.int .u8 7), .lit (.int .u8 26), .lit (.int .u8 12), .lit (.int .u8 18), .lit (.int .u8 6), .lit (.int .u8 11), .lit (.int .u8 5), .lit (.int .u8 10), .lit (.int .u8 9)]
def laid_math_bits_deBruijn64tab {H : Type} : DataW H := .agg [.lit (.int .u8 0), .lit (.int .u8 1), .lit (.int .u8 56), .lit (.int .u8 2), .lit (.int .u8 57), .lit (.int .u8 49), .lit (.int .u8 28), .lit (.int .u8 3), .lit (.int .u8 61), .lit (.int .u8 58), .lit (.int .u8 42), .lit (.int .u8 50), .lit (.int .u8 38), .lit (.int .u8 29), .lit (.int .u8 17), .lit (.int .u8 4), .lit (.int .u8 62), .lit (.int .u8 47), .lit (.int .u8 59), .lit (.int .u8 36), .lit (.int .u8 45), .lit (.int .u8 43), .lit (.int .u8 51), .lit (.int .u8 22), .lit (.int .u8 53), .lit (.int .u8 39), .lit (.int .u8 33), .lit (.int .u8 30), .lit (.int .u8 24), .lit (.int .u8 18), .lit (.int .u8 12), .lit (.int .u8 5), .lit (.int .u8 63), .lit (.int .u8 55), .lit (.int .u8 48), .lit (.int .u8 27), .lit (.int .u8 60), .lit (.int .u8 41), .lit (.int .u8 37), .lit (.int .u8 16), .lit (.int .u8 46), .lit (.int .u8 35), .lit (.int .u8 44), .lit (.int .u8 21), .lit (.int .u8 52), .lit (.int .u8 32), .lit (.int .u8 23), .lit (.int .u8 11), .lit (.int .u8 54), .lit (.int .u8 26), .lit (.int .u8 40), .lit (.int .u8 15), .lit (.int .u8 34), .lit (.int .u8 20), .lit (.int .u8 31), .lit (.int .u8 10), .lit (.int .u8 25), .lit (.int .u8 14), .lit (.int .u8 19), .lit (.int .u8 9), .lit (.int .u8 13), .lit (.int .u8 8), .lit (.int .u8 7), .lit (.int .u8 6)]
def laid_internal_strconv_uint64pow10 {H : Type} : DataW H := .agg [.lit (.int .u64 1), .lit (.int .u64 10), .lit (.int .u64 100), .lit (.int .u64 1000), .lit (.int .u64 10000), .lit (.int .u64 100000), .lit (.int .u64 1000000), .lit (.int .u64 10000000), .lit (.int .u64 100000000), .lit (.int .u64 1000000000), .lit (.int .u64 10000000000), .lit (.int .u64 100000000000), .lit (.int .u64 1000000000000), .lit (.int .u64 10000000000000), .lit (.int .u64 100000000000000), .lit (.int .u64 1000000000000000), .lit (.int .u64 10000000000000000), .lit (.int .u64 100000000000000000), .lit (.int .u64 1000000000000000000), .lit (.int .u64 10000000000000000000)]

/-- 'disjointlaw20.AutomatonShortest': WHATEVER THE INPUT: true; the input reads as it did. -/
def automatonShortestSpec : ChangeSpec := { name := "automatonShortest", fn := fun _ => fun
  | [d1, d2, d3] => { results := [.lit (.bool true)], args := [d1, d2, d3] }
  | _ => none }
def automatonShortestRow : OpenClaim := { program := "ytckhldmpcddjmaadoor", sum := "b26567e052d9bfe03bb1928e2f6af985199b42fba845ecc37ba9834a6cede531", func := "disjoint/disjointlaw20.AutomatonShortest", spec := "automatonShortest", unfollowed := true, recurses := true, named := ["internal/strconv.uint64pow10", "math/bits.deBruijn32tab", "math/bits.deBruijn64tab"], plainKeys := false, apart := false, laid := [("math/bits.deBruijn32tab", laid_math_bits_deBruijn32tab), ("math/bits.deBruijn64tab", laid_math_bits_deBruijn64tab), ("internal/strconv.uint64pow10", laid_internal_strconv_uint64pow10)] }
def AutomatonShortestSaid : Prop := automatonShortestRow.holds Tryd.pinned (OpenSpec.ofChange automatonShortestSpec)

/-- ITS FALSE NEIGHBOUR: 'it returns false'. Refute it at one input. -/
def automatonShortestWrong : ChangeSpec := { name := "automatonShortest", fn := fun _ => fun
  | [d1, d2, d3] => { results := [.lit (.bool false)], args := [d1, d2, d3] }
  | _ => none }
def AutomatonShortestWrongFalsely : Prop := automatonShortestRow.holds Tryd.pinned (OpenSpec.ofChange automatonShortestWrong)

/-- 'disjointlaw20.AutomatonAccepts': WHATEVER THE INPUT: true; the input reads as it did. -/
def automatonAcceptsSpec : ChangeSpec := { name := "automatonAccepts", fn := fun _ => fun
  | [d1, d2] => { results := [.lit (.bool true)], args := [d1, d2] }
  | _ => none }
def automatonAcceptsRow : OpenClaim := { program := "ytckhldmpcddjmaadoor", sum := "b26567e052d9bfe03bb1928e2f6af985199b42fba845ecc37ba9834a6cede531", func := "disjoint/disjointlaw20.AutomatonAccepts", spec := "automatonAccepts", unfollowed := true, recurses := true, named := ["internal/strconv.uint64pow10", "math/bits.deBruijn32tab", "math/bits.deBruijn64tab"], plainKeys := false, apart := false, laid := [("math/bits.deBruijn32tab", laid_math_bits_deBruijn32tab), ("math/bits.deBruijn64tab", laid_math_bits_deBruijn64tab), ("internal/strconv.uint64pow10", laid_internal_strconv_uint64pow10)] }
def AutomatonAcceptsSaid : Prop := automatonAcceptsRow.holds Tryd.pinned (OpenSpec.ofChange automatonAcceptsSpec)

/-- ITS FALSE NEIGHBOUR: 'it returns false'. Refute it at one input. -/
def automatonAcceptsWrong : ChangeSpec := { name := "automatonAccepts", fn := fun _ => fun
  | [d1, d2] => { results := [.lit (.bool false)], args := [d1, d2] }
  | _ => none }
def AutomatonAcceptsWrongFalsely : Prop := automatonAcceptsRow.holds Tryd.pinned (OpenSpec.ofChange automatonAcceptsWrong)

/-- 'disjointlaw20.AutomatonMinimize': WHATEVER THE INPUT: true; the input reads as it did. -/
def automatonMinimizeSpec : ChangeSpec := { name := "automatonMinimize", fn := fun _ => fun
  | [d] => { results := [.lit (.bool true)], args := [d] }
  | _ => none }
def automatonMinimizeRow : OpenClaim := { program := "ytckhldmpcddjmaadoor", sum := "b26567e052d9bfe03bb1928e2f6af985199b42fba845ecc37ba9834a6cede531", func := "disjoint/disjointlaw20.AutomatonMinimize", spec := "automatonMinimize", unfollowed := true, recurses := true, named := ["internal/strconv.uint64pow10", "math/bits.deBruijn32tab", "math/bits.deBruijn64tab"], plainKeys := false, apart := false, laid := [("math/bits.deBruijn32tab", laid_math_bits_deBruijn32tab), ("math/bits.deBruijn64tab", laid_math_bits_deBruijn64tab), ("internal/strconv.uint64pow10", laid_internal_strconv_uint64pow10)] }
def AutomatonMinimizeSaid : Prop := automatonMinimizeRow.holds Tryd.pinned (OpenSpec.ofChange automatonMinimizeSpec)

/-- ITS FALSE NEIGHBOUR: 'it returns false'. Refute it at one input. -/
def automatonMinimizeWrong : ChangeSpec := { name := "automatonMinimize", fn := fun _ => fun
  | [d] => { results := [.lit (.bool false)], args := [d] }
  | _ => none }
def AutomatonMinimizeWrongFalsely : Prop := automatonMinimizeRow.holds Tryd.pinned (OpenSpec.ofChange automatonMinimizeWrong)

/-- 'disjointlaw20.AutomatonEquivalent': WHATEVER THE INPUT: true; the input reads as it did. -/
def automatonEquivalentSpec : ChangeSpec := { name := "automatonEquivalent", fn := fun _ => fun
  | [d1, d2] => { results := [.lit (.bool true)], args := [d1, d2] }
  | _ => none }
def automatonEquivalentRow : OpenClaim := { program := "ytckhldmpcddjmaadoor", sum := "b26567e052d9bfe03bb1928e2f6af985199b42fba845ecc37ba9834a6cede531", func := "disjoint/disjointlaw20.AutomatonEquivalent", spec := "automatonEquivalent", unfollowed := true, recurses := true, named := ["internal/strconv.uint64pow10", "math/bits.deBruijn32tab", "math/bits.deBruijn64tab"], plainKeys := false, apart := false, laid := [("math/bits.deBruijn32tab", laid_math_bits_deBruijn32tab), ("math/bits.deBruijn64tab", laid_math_bits_deBruijn64tab), ("internal/strconv.uint64pow10", laid_internal_strconv_uint64pow10)] }
def AutomatonEquivalentSaid : Prop := automatonEquivalentRow.holds Tryd.pinned (OpenSpec.ofChange automatonEquivalentSpec)

/-- ITS FALSE NEIGHBOUR: 'it returns false'. Refute it at one input. -/
def automatonEquivalentWrong : ChangeSpec := { name := "automatonEquivalent", fn := fun _ => fun
  | [d1, d2] => { results := [.lit (.bool false)], args := [d1, d2] }
  | _ => none }
def AutomatonEquivalentWrongFalsely : Prop := automatonEquivalentRow.holds Tryd.pinned (OpenSpec.ofChange automatonEquivalentWrong)

/-- 'disjointlaw20.AutomatonAtMost': WHATEVER THE INPUT: true; the input reads as it did. -/
def automatonAtMostSpec : ChangeSpec := { name := "automatonAtMost", fn := fun _ => fun
  | [d1, d2] => { results := [.lit (.bool true)], args := [d1, d2] }
  | _ => none }
def automatonAtMostRow : OpenClaim := { program := "ytckhldmpcddjmaadoor", sum := "b26567e052d9bfe03bb1928e2f6af985199b42fba845ecc37ba9834a6cede531", func := "disjoint/disjointlaw20.AutomatonAtMost", spec := "automatonAtMost", unfollowed := true, recurses := true, named := ["internal/strconv.uint64pow10", "math/bits.deBruijn32tab", "math/bits.deBruijn64tab"], plainKeys := false, apart := false, laid := [("math/bits.deBruijn32tab", laid_math_bits_deBruijn32tab), ("math/bits.deBruijn64tab", laid_math_bits_deBruijn64tab), ("internal/strconv.uint64pow10", laid_internal_strconv_uint64pow10)] }
def AutomatonAtMostSaid : Prop := automatonAtMostRow.holds Tryd.pinned (OpenSpec.ofChange automatonAtMostSpec)

/-- ITS FALSE NEIGHBOUR: 'it returns false'. Refute it at one input. -/
def automatonAtMostWrong : ChangeSpec := { name := "automatonAtMost", fn := fun _ => fun
  | [d1, d2] => { results := [.lit (.bool false)], args := [d1, d2] }
  | _ => none }
def AutomatonAtMostWrongFalsely : Prop := automatonAtMostRow.holds Tryd.pinned (OpenSpec.ofChange automatonAtMostWrong)

/-- 'disjointlaw20.AutomatonAnd': WHATEVER THE INPUT: true; the input reads as it did. -/
def automatonAndSpec : ChangeSpec := { name := "automatonAnd", fn := fun _ => fun
  | [d1, d2] => { results := [.lit (.bool true)], args := [d1, d2] }
  | _ => none }
def automatonAndRow : OpenClaim := { program := "ytckhldmpcddjmaadoor", sum := "b26567e052d9bfe03bb1928e2f6af985199b42fba845ecc37ba9834a6cede531", func := "disjoint/disjointlaw20.AutomatonAnd", spec := "automatonAnd", unfollowed := true, recurses := true, named := ["internal/strconv.uint64pow10", "math/bits.deBruijn32tab", "math/bits.deBruijn64tab"], plainKeys := false, apart := false, laid := [("math/bits.deBruijn32tab", laid_math_bits_deBruijn32tab), ("math/bits.deBruijn64tab", laid_math_bits_deBruijn64tab), ("internal/strconv.uint64pow10", laid_internal_strconv_uint64pow10)] }
def AutomatonAndSaid : Prop := automatonAndRow.holds Tryd.pinned (OpenSpec.ofChange automatonAndSpec)

/-- ITS FALSE NEIGHBOUR: 'it returns false'. Refute it at one input. -/
def automatonAndWrong : ChangeSpec := { name := "automatonAnd", fn := fun _ => fun
  | [d1, d2] => { results := [.lit (.bool false)], args := [d1, d2] }
  | _ => none }
def AutomatonAndWrongFalsely : Prop := automatonAndRow.holds Tryd.pinned (OpenSpec.ofChange automatonAndWrong)

/-- 'disjointlaw20.AutomatonNot': WHATEVER THE INPUT: true; the input reads as it did. -/
def automatonNotSpec : ChangeSpec := { name := "automatonNot", fn := fun _ => fun
  | [d] => { results := [.lit (.bool true)], args := [d] }
  | _ => none }
def automatonNotRow : OpenClaim := { program := "ytckhldmpcddjmaadoor", sum := "b26567e052d9bfe03bb1928e2f6af985199b42fba845ecc37ba9834a6cede531", func := "disjoint/disjointlaw20.AutomatonNot", spec := "automatonNot", unfollowed := true, recurses := true, named := ["internal/strconv.uint64pow10", "math/bits.deBruijn32tab", "math/bits.deBruijn64tab"], plainKeys := false, apart := false, laid := [("math/bits.deBruijn32tab", laid_math_bits_deBruijn32tab), ("math/bits.deBruijn64tab", laid_math_bits_deBruijn64tab), ("internal/strconv.uint64pow10", laid_internal_strconv_uint64pow10)] }
def AutomatonNotSaid : Prop := automatonNotRow.holds Tryd.pinned (OpenSpec.ofChange automatonNotSpec)

/-- ITS FALSE NEIGHBOUR: 'it returns false'. Refute it at one input. -/
def automatonNotWrong : ChangeSpec := { name := "automatonNot", fn := fun _ => fun
  | [d] => { results := [.lit (.bool false)], args := [d] }
  | _ => none }
def AutomatonNotWrongFalsely : Prop := automatonNotRow.holds Tryd.pinned (OpenSpec.ofChange automatonNotWrong)

/-- 'disjointlaw20.AutomatonAlgebra': WHATEVER THE INPUT: true; the input reads as it did. -/
def automatonAlgebraSpec : ChangeSpec := { name := "automatonAlgebra", fn := fun _ => fun
  | [d1, d2] => { results := [.lit (.bool true)], args := [d1, d2] }
  | _ => none }
def automatonAlgebraRow : OpenClaim := { program := "ytckhldmpcddjmaadoor", sum := "b26567e052d9bfe03bb1928e2f6af985199b42fba845ecc37ba9834a6cede531", func := "disjoint/disjointlaw20.AutomatonAlgebra", spec := "automatonAlgebra", unfollowed := true, recurses := true, named := ["internal/strconv.uint64pow10", "math/bits.deBruijn32tab", "math/bits.deBruijn64tab"], plainKeys := false, apart := false, laid := [("math/bits.deBruijn32tab", laid_math_bits_deBruijn32tab), ("math/bits.deBruijn64tab", laid_math_bits_deBruijn64tab), ("internal/strconv.uint64pow10", laid_internal_strconv_uint64pow10)] }
def AutomatonAlgebraSaid : Prop := automatonAlgebraRow.holds Tryd.pinned (OpenSpec.ofChange automatonAlgebraSpec)

/-- ITS FALSE NEIGHBOUR: 'it returns false'. Refute it at one input. -/
def automatonAlgebraWrong : ChangeSpec := { name := "automatonAlgebra", fn := fun _ => fun
  | [d1, d2] => { results := [.lit (.bool false)], args := [d1, d2] }
  | _ => none }
def AutomatonAlgebraWrongFalsely : Prop := automatonAlgebraRow.holds Tryd.pinned (OpenSpec.ofChange automatonAlgebraWrong)

/- THE SECOND FORM. 'bulk': how many values and letters a reading holds, each counted each time it is reached (what is shared counts as often as it is met; a slice's spare places count too). A statement '..UptoSaid' is the law's where the arguments, and the package variables that the reading takes, are together of bulk at most 1048576: NARROWER than '..Said'. Prove '..Said' where nothing that the law and all that it calls make is longer than what came in: it says more and counts as full. Else prove '..UptoSaid'. A law counts once. -/
mutual
def uptoBulk {H : Type} : DataW H → Nat
  | .lit (.string bytes) => bytes.length + 1
  | .lit _ => 1
  | .nil => 1
  | .ptr d => uptoBulk d + 1
  | .slice elems spare => uptoBulkAll elems + uptoBulkAll spare + 1
  | .agg parts => uptoBulkAll parts + 1
  | .iface _ d => uptoBulk d + 1
  | .map entries => uptoBulkEntries entries + 1
  | .held _ => 1
def uptoBulkAll {H : Type} : List (DataW H) → Nat
  | [] => 0
  | d :: r => uptoBulk d + uptoBulkAll r
def uptoBulkEntries {H : Type} : List (Lit × DataW H) → Nat
  | [] => 0
  | x :: r => uptoBulkEntry x + uptoBulkEntries r
def uptoBulkEntry {H : Type} : Lit × DataW H → Nat
  | (.string bytes, d) => bytes.length + uptoBulk d + 1
  | (_, d) => uptoBulk d + 1
 end
def uptoSmall : (H : Type) → List (DataW H) → Bool := fun _ ds => decide (uptoBulkAll ds ≤ 1048576)
def OpenSpec.upto (s : _root_.Go.ChangeSpec) : _root_.Go.OpenSpec := { _root_.Go.OpenSpec.ofChange s with cond := some uptoSmall }

/-- 'disjointlaw20.AutomatonShortest', WHERE WHAT IT READS IS OF BULK AT MOST 1048576: true; the input reads as it did. -/
def automatonShortestUptoRow : OpenClaim := { program := "ytckhldmpcddjmaadoor", sum := "b26567e052d9bfe03bb1928e2f6af985199b42fba845ecc37ba9834a6cede531", func := "disjoint/disjointlaw20.AutomatonShortest", spec := "automatonShortest", unfollowed := true, recurses := true, named := ["internal/strconv.uint64pow10", "math/bits.deBruijn32tab", "math/bits.deBruijn64tab"], plainKeys := false, apart := false, laid := [("math/bits.deBruijn32tab", laid_math_bits_deBruijn32tab), ("math/bits.deBruijn64tab", laid_math_bits_deBruijn64tab), ("internal/strconv.uint64pow10", laid_internal_strconv_uint64pow10)], narrowed := true }
def AutomatonShortestUptoSaid : Prop := automatonShortestUptoRow.holds Tryd.pinned (OpenSpec.upto automatonShortestSpec)

/-- 'disjointlaw20.AutomatonAccepts', WHERE WHAT IT READS IS OF BULK AT MOST 1048576: true; the input reads as it did. -/
def automatonAcceptsUptoRow : OpenClaim := { program := "ytckhldmpcddjmaadoor", sum := "b26567e052d9bfe03bb1928e2f6af985199b42fba845ecc37ba9834a6cede531", func := "disjoint/disjointlaw20.AutomatonAccepts", spec := "automatonAccepts", unfollowed := true, recurses := true, named := ["internal/strconv.uint64pow10", "math/bits.deBruijn32tab", "math/bits.deBruijn64tab"], plainKeys := false, apart := false, laid := [("math/bits.deBruijn32tab", laid_math_bits_deBruijn32tab), ("math/bits.deBruijn64tab", laid_math_bits_deBruijn64tab), ("internal/strconv.uint64pow10", laid_internal_strconv_uint64pow10)], narrowed := true }
def AutomatonAcceptsUptoSaid : Prop := automatonAcceptsUptoRow.holds Tryd.pinned (OpenSpec.upto automatonAcceptsSpec)

/-- 'disjointlaw20.AutomatonMinimize', WHERE WHAT IT READS IS OF BULK AT MOST 1048576: true; the input reads as it did. -/
def automatonMinimizeUptoRow : OpenClaim := { program := "ytckhldmpcddjmaadoor", sum := "b26567e052d9bfe03bb1928e2f6af985199b42fba845ecc37ba9834a6cede531", func := "disjoint/disjointlaw20.AutomatonMinimize", spec := "automatonMinimize", unfollowed := true, recurses := true, named := ["internal/strconv.uint64pow10", "math/bits.deBruijn32tab", "math/bits.deBruijn64tab"], plainKeys := false, apart := false, laid := [("math/bits.deBruijn32tab", laid_math_bits_deBruijn32tab), ("math/bits.deBruijn64tab", laid_math_bits_deBruijn64tab), ("internal/strconv.uint64pow10", laid_internal_strconv_uint64pow10)], narrowed := true }
def AutomatonMinimizeUptoSaid : Prop := automatonMinimizeUptoRow.holds Tryd.pinned (OpenSpec.upto automatonMinimizeSpec)

/-- 'disjointlaw20.AutomatonEquivalent', WHERE WHAT IT READS IS OF BULK AT MOST 1048576: true; the input reads as it did. -/
def automatonEquivalentUptoRow : OpenClaim := { program := "ytckhldmpcddjmaadoor", sum := "b26567e052d9bfe03bb1928e2f6af985199b42fba845ecc37ba9834a6cede531", func := "disjoint/disjointlaw20.AutomatonEquivalent", spec := "automatonEquivalent", unfollowed := true, recurses := true, named := ["internal/strconv.uint64pow10", "math/bits.deBruijn32tab", "math/bits.deBruijn64tab"], plainKeys := false, apart := false, laid := [("math/bits.deBruijn32tab", laid_math_bits_deBruijn32tab), ("math/bits.deBruijn64tab", laid_math_bits_deBruijn64tab), ("internal/strconv.uint64pow10", laid_internal_strconv_uint64pow10)], narrowed := true }
def AutomatonEquivalentUptoSaid : Prop := automatonEquivalentUptoRow.holds Tryd.pinned (OpenSpec.upto automatonEquivalentSpec)

/-- 'disjointlaw20.AutomatonAtMost', WHERE WHAT IT READS IS OF BULK AT MOST 1048576: true; the input reads as it did. -/
def automatonAtMostUptoRow : OpenClaim := { program := "ytckhldmpcddjmaadoor", sum := "b26567e052d9bfe03bb1928e2f6af985199b42fba845ecc37ba9834a6cede531", func := "disjoint/disjointlaw20.AutomatonAtMost", spec := "automatonAtMost", unfollowed := true, recurses := true, named := ["internal/strconv.uint64pow10", "math/bits.deBruijn32tab", "math/bits.deBruijn64tab"], plainKeys := false, apart := false, laid := [("math/bits.deBruijn32tab", laid_math_bits_deBruijn32tab), ("math/bits.deBruijn64tab", laid_math_bits_deBruijn64tab), ("internal/strconv.uint64pow10", laid_internal_strconv_uint64pow10)], narrowed := true }
def AutomatonAtMostUptoSaid : Prop := automatonAtMostUptoRow.holds Tryd.pinned (OpenSpec.upto automatonAtMostSpec)

/-- 'disjointlaw20.AutomatonAnd', WHERE WHAT IT READS IS OF BULK AT MOST 1048576: true; the input reads as it did. -/
def automatonAndUptoRow : OpenClaim := { program := "ytckhldmpcddjmaadoor", sum := "b26567e052d9bfe03bb1928e2f6af985199b42fba845ecc37ba9834a6cede531", func := "disjoint/disjointlaw20.AutomatonAnd", spec := "automatonAnd", unfollowed := true, recurses := true, named := ["internal/strconv.uint64pow10", "math/bits.deBruijn32tab", "math/bits.deBruijn64tab"], plainKeys := false, apart := false, laid := [("math/bits.deBruijn32tab", laid_math_bits_deBruijn32tab), ("math/bits.deBruijn64tab", laid_math_bits_deBruijn64tab), ("internal/strconv.uint64pow10", laid_internal_strconv_uint64pow10)], narrowed := true }
def AutomatonAndUptoSaid : Prop := automatonAndUptoRow.holds Tryd.pinned (OpenSpec.upto automatonAndSpec)

/-- 'disjointlaw20.AutomatonNot', WHERE WHAT IT READS IS OF BULK AT MOST 1048576: true; the input reads as it did. -/
def automatonNotUptoRow : OpenClaim := { program := "ytckhldmpcddjmaadoor", sum := "b26567e052d9bfe03bb1928e2f6af985199b42fba845ecc37ba9834a6cede531", func := "disjoint/disjointlaw20.AutomatonNot", spec := "automatonNot", unfollowed := true, recurses := true, named := ["internal/strconv.uint64pow10", "math/bits.deBruijn32tab", "math/bits.deBruijn64tab"], plainKeys := false, apart := false, laid := [("math/bits.deBruijn32tab", laid_math_bits_deBruijn32tab), ("math/bits.deBruijn64tab", laid_math_bits_deBruijn64tab), ("internal/strconv.uint64pow10", laid_internal_strconv_uint64pow10)], narrowed := true }
def AutomatonNotUptoSaid : Prop := automatonNotUptoRow.holds Tryd.pinned (OpenSpec.upto automatonNotSpec)

/-- 'disjointlaw20.AutomatonAlgebra', WHERE WHAT IT READS IS OF BULK AT MOST 1048576: true; the input reads as it did. -/
def automatonAlgebraUptoRow : OpenClaim := { program := "ytckhldmpcddjmaadoor", sum := "b26567e052d9bfe03bb1928e2f6af985199b42fba845ecc37ba9834a6cede531", func := "disjoint/disjointlaw20.AutomatonAlgebra", spec := "automatonAlgebra", unfollowed := true, recurses := true, named := ["internal/strconv.uint64pow10", "math/bits.deBruijn32tab", "math/bits.deBruijn64tab"], plainKeys := false, apart := false, laid := [("math/bits.deBruijn32tab", laid_math_bits_deBruijn32tab), ("math/bits.deBruijn64tab", laid_math_bits_deBruijn64tab), ("internal/strconv.uint64pow10", laid_internal_strconv_uint64pow10)], narrowed := true }
def AutomatonAlgebraUptoSaid : Prop := automatonAlgebraUptoRow.holds Tryd.pinned (OpenSpec.upto automatonAlgebraSpec)

end Rows
end Go.Proofs.YtckhldmpcddjmaaDoor
