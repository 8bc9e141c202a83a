/-
  NARROWER THAN 'FOR EVERY INPUT', by the rows' own cells (each row's printed sentence says how): OmegaSolve: laid · OmegaBoxed: laid · OmegaLeast: laid · OmegaInvariant: laid · OmegaSubset: laid · OmegaSatisfies: laid · OmegaEquations: laid.
  DERIVED. THE GIVEN ROWS OF THIS SEAT. 7 by the template 'for every input the law returns true; each argument reads behind the call as it read before'; 0 by the template 'total and deterministic' (their statements: YtipdkfmhfakbnaaGreatDoorTotals.lean).
  GIVEN WITH THE SEED: the statements are not yours to turn. If you find one false, say at which input.
  Laid BY PROGRAM, IN A SANDBOX (cutbox-rows.mjs): the forced cells as the released guide's own fill.sh prints them over the translation 39c10801135b55c2… (all of the seat's roots in one cut). By AI agents, Wed Nov 11 2026. No macro, syntax, notation, axiom, sorry.
-/
import Derived.Test.YtipdkfmhfakbnaaGreatDoorChecked
import GoSem.Claim
import GoSem.ClaimJoined
import GoSem.ClaimMapViews
import Derived.JoinedTies
import Derived.KernelRfl
namespace Go.Proofs.YtipdkfmhfakbnaaGreatDoor
/- THE CELL 'sum', in the pinned program and in every row, IS THE sha256 OF THE DUMP (.gsa) THAT YtipdkfmhfakbnaaGreatDoorProg.lean LOADS. Nothing in Lean hashes anything: it is a label: what it is worth is what the hold of that sum in a sandbox is worth. -/
noncomputable def Tryz.pinned : Pinned := { name := "ytipdkfmhfakbnaagreatdoor", sum := "39c10801135b55c28ecb0a43a7f3922f969468b731b13cfbf4ce6e3f4c224348", checked := Tryz.checked }
namespace Rows
def none {H : Type} : Left H := { results := [], args := [] }

/- WHAT THE LISTED PACKAGE-LEVEL VARIABLES READ AS WHEN THE CALL BEGINS. Each datum BY PROGRAM (the guide's laid-datum.mjs) off the statement by which the dump's own 'gosem.cut.vars' lays the variable. In a bare row this is a premise. The card (YtipdkfmhfakbnaaGreatDoorCards.lean) ties it to the program's text. -/
def laid_math_bits_deBruijn32tab {H : Type} : DataW H := .agg [.lit (.int .u8 0), .lit (.int .u8 1), .lit (.int .u8 28), .lit (.int .u8 2), .lit (.int .u8 29), .lit (.int .u8 14), .lit (.int .u8 24), .lit (.int .u8 3), .lit (.int .u8 30), .lit (.int .u8 22), .lit (.int .u8 20), .lit (.int .u8 15), .lit (.int .u8 25), .lit (.int .u8 17), .lit (.int .u8 4), .lit (.int .u8 8), .lit (.int .u8 31), .lit (.int .u8 27), .lit (.int .u8 13), .lit (.int .u8 23), .lit (.int .u8 21), .lit (.int .u8 19), .lit (.int .u8 16), .lit (.int .u8 7), .lit (.int .u8 26), .lit (.int .u8 12), .lit (.int .u8 18), .lit (.int .u8 6), .lit (.int .u8 11), .lit (.int .u8 5), .lit (.int .u8 10), .lit (.int .u8 9)]
def laid_math_bits_deBruijn64tab {H : Type} : DataW H := .agg [.lit (.int .u8 0), .lit (.int .u8 1), .lit (.int .u8 56), .lit (.int .u8 2), .lit (.int .u8 57), .lit (.int .u8 49), .lit (.int .u8 28), .lit (.int .u8 3), .lit (.int .u8 61), .lit (.int .u8 58), .lit (.int .u8 42), .lit (.int .u8 50), .lit (.int .u8 38), .lit (.int .u8 29), .lit (.int .u8 17), .lit (.int .u8 4), .lit (.int .u8 62), .lit (.int .u8 47), .lit (.int .u8 59), .lit (.int .u8 36), .lit (.int .u8 45), .lit (.int .u8 43), .lit (.int .u8 51), .lit (.int .u8 22), .lit (.int .u8 53), .lit (.int .u8 39), .lit (.int .u8 33), .lit (.int .u8 30), .lit (.int .u8 24), .lit (.int .u8 18), .lit (.int .u8 12), .lit (.int .u8 5), .lit (.int .u8 63), .lit (.int .u8 55), .lit (.int .u8 48), .lit (.int .u8 27), .lit (.int .u8 60), .lit (.int .u8 41), .lit (.int .u8 37), .lit (.int .u8 16), .lit (.int .u8 46), .lit (.int .u8 35), .lit (.int .u8 44), .lit (.int .u8 21), .lit (.int .u8 52), .lit (.int .u8 32), .lit (.int .u8 23), .lit (.int .u8 11), .lit (.int .u8 54), .lit (.int .u8 26), .lit (.int .u8 40), .lit (.int .u8 15), .lit (.int .u8 34), .lit (.int .u8 20), .lit (.int .u8 31), .lit (.int .u8 10), .lit (.int .u8 25), .lit (.int .u8 14), .lit (.int .u8 19), .lit (.int .u8 9), .lit (.int .u8 13), .lit (.int .u8 8), .lit (.int .u8 7), .lit (.int .u8 6)]
def laid_internal_strconv_uint64pow10 {H : Type} : DataW H := .agg [.lit (.int .u64 1), .lit (.int .u64 10), .lit (.int .u64 100), .lit (.int .u64 1000), .lit (.int .u64 10000), .lit (.int .u64 100000), .lit (.int .u64 1000000), .lit (.int .u64 10000000), .lit (.int .u64 100000000), .lit (.int .u64 1000000000), .lit (.int .u64 10000000000), .lit (.int .u64 100000000000), .lit (.int .u64 1000000000000), .lit (.int .u64 10000000000000), .lit (.int .u64 100000000000000), .lit (.int .u64 1000000000000000), .lit (.int .u64 10000000000000000), .lit (.int .u64 100000000000000000), .lit (.int .u64 1000000000000000000), .lit (.int .u64 10000000000000000000)]

/-- 'disjointlaw24.OmegaSolve': WHATEVER THE INPUT: true; the input reads as it did. -/
def omegaSolveSpec : ChangeSpec := { name := "omegaSolve", fn := fun _ => fun
  | [d1, d2] => { results := [.lit (.bool true)], args := [d1, d2] }
  | _ => none }
def omegaSolveRow : OpenClaim := { program := "ytipdkfmhfakbnaagreatdoor", sum := "39c10801135b55c28ecb0a43a7f3922f969468b731b13cfbf4ce6e3f4c224348", func := "disjoint/disjointlaw24.OmegaSolve", spec := "omegaSolve", inPlace := ["internal/abi.NoEscape", "internal/bytealg.MakeNoZero"], unfollowed := true, recurses := true, named := ["internal/strconv.uint64pow10", "math/bits.deBruijn32tab", "math/bits.deBruijn64tab"], apart := false, laid := [("math/bits.deBruijn32tab", laid_math_bits_deBruijn32tab), ("math/bits.deBruijn64tab", laid_math_bits_deBruijn64tab), ("internal/strconv.uint64pow10", laid_internal_strconv_uint64pow10)] }
def OmegaSolveSaid : Prop := omegaSolveRow.holds Tryz.pinned (OpenSpec.ofChange omegaSolveSpec)

/-- ITS FALSE NEIGHBOUR: 'it returns false'. Refute it at one input. -/
def omegaSolveWrong : ChangeSpec := { name := "omegaSolve", fn := fun _ => fun
  | [d1, d2] => { results := [.lit (.bool false)], args := [d1, d2] }
  | _ => none }
def OmegaSolveWrongFalsely : Prop := omegaSolveRow.holds Tryz.pinned (OpenSpec.ofChange omegaSolveWrong)

/-- 'disjointlaw24.OmegaBoxed': WHATEVER THE INPUT: true; the input reads as it did. -/
def omegaBoxedSpec : ChangeSpec := { name := "omegaBoxed", fn := fun _ => fun
  | [d1, d2, d3] => { results := [.lit (.bool true)], args := [d1, d2, d3] }
  | _ => none }
def omegaBoxedRow : OpenClaim := { program := "ytipdkfmhfakbnaagreatdoor", sum := "39c10801135b55c28ecb0a43a7f3922f969468b731b13cfbf4ce6e3f4c224348", func := "disjoint/disjointlaw24.OmegaBoxed", spec := "omegaBoxed", inPlace := ["internal/abi.NoEscape", "internal/bytealg.MakeNoZero"], unfollowed := true, recurses := true, named := ["internal/strconv.uint64pow10", "math/bits.deBruijn32tab", "math/bits.deBruijn64tab"], apart := false, laid := [("math/bits.deBruijn32tab", laid_math_bits_deBruijn32tab), ("math/bits.deBruijn64tab", laid_math_bits_deBruijn64tab), ("internal/strconv.uint64pow10", laid_internal_strconv_uint64pow10)] }
def OmegaBoxedSaid : Prop := omegaBoxedRow.holds Tryz.pinned (OpenSpec.ofChange omegaBoxedSpec)

/-- ITS FALSE NEIGHBOUR: 'it returns false'. Refute it at one input. -/
def omegaBoxedWrong : ChangeSpec := { name := "omegaBoxed", fn := fun _ => fun
  | [d1, d2, d3] => { results := [.lit (.bool false)], args := [d1, d2, d3] }
  | _ => none }
def OmegaBoxedWrongFalsely : Prop := omegaBoxedRow.holds Tryz.pinned (OpenSpec.ofChange omegaBoxedWrong)

/-- 'disjointlaw24.OmegaLeast': WHATEVER THE INPUT: true; the input reads as it did. -/
def omegaLeastSpec : ChangeSpec := { name := "omegaLeast", fn := fun _ => fun
  | [d1, d2, d3] => { results := [.lit (.bool true)], args := [d1, d2, d3] }
  | _ => none }
def omegaLeastRow : OpenClaim := { program := "ytipdkfmhfakbnaagreatdoor", sum := "39c10801135b55c28ecb0a43a7f3922f969468b731b13cfbf4ce6e3f4c224348", func := "disjoint/disjointlaw24.OmegaLeast", spec := "omegaLeast", inPlace := ["internal/abi.NoEscape", "internal/bytealg.MakeNoZero"], unfollowed := true, recurses := true, named := ["internal/strconv.uint64pow10", "math/bits.deBruijn32tab", "math/bits.deBruijn64tab"], apart := false, laid := [("math/bits.deBruijn32tab", laid_math_bits_deBruijn32tab), ("math/bits.deBruijn64tab", laid_math_bits_deBruijn64tab), ("internal/strconv.uint64pow10", laid_internal_strconv_uint64pow10)] }
def OmegaLeastSaid : Prop := omegaLeastRow.holds Tryz.pinned (OpenSpec.ofChange omegaLeastSpec)

/-- ITS FALSE NEIGHBOUR: 'it returns false'. Refute it at one input. -/
def omegaLeastWrong : ChangeSpec := { name := "omegaLeast", fn := fun _ => fun
  | [d1, d2, d3] => { results := [.lit (.bool false)], args := [d1, d2, d3] }
  | _ => none }
def OmegaLeastWrongFalsely : Prop := omegaLeastRow.holds Tryz.pinned (OpenSpec.ofChange omegaLeastWrong)

/-- 'disjointlaw24.OmegaInvariant': WHATEVER THE INPUT: true; the input reads as it did. -/
def omegaInvariantSpec : ChangeSpec := { name := "omegaInvariant", fn := fun _ => fun
  | [d1, d2, d3, d4] => { results := [.lit (.bool true)], args := [d1, d2, d3, d4] }
  | _ => none }
def omegaInvariantRow : OpenClaim := { program := "ytipdkfmhfakbnaagreatdoor", sum := "39c10801135b55c28ecb0a43a7f3922f969468b731b13cfbf4ce6e3f4c224348", func := "disjoint/disjointlaw24.OmegaInvariant", spec := "omegaInvariant", inPlace := ["internal/abi.NoEscape", "internal/bytealg.MakeNoZero"], unfollowed := true, recurses := true, named := ["internal/strconv.uint64pow10", "math/bits.deBruijn32tab", "math/bits.deBruijn64tab"], apart := false, laid := [("math/bits.deBruijn32tab", laid_math_bits_deBruijn32tab), ("math/bits.deBruijn64tab", laid_math_bits_deBruijn64tab), ("internal/strconv.uint64pow10", laid_internal_strconv_uint64pow10)] }
def OmegaInvariantSaid : Prop := omegaInvariantRow.holds Tryz.pinned (OpenSpec.ofChange omegaInvariantSpec)

/-- ITS FALSE NEIGHBOUR: 'it returns false'. Refute it at one input. -/
def omegaInvariantWrong : ChangeSpec := { name := "omegaInvariant", fn := fun _ => fun
  | [d1, d2, d3, d4] => { results := [.lit (.bool false)], args := [d1, d2, d3, d4] }
  | _ => none }
def OmegaInvariantWrongFalsely : Prop := omegaInvariantRow.holds Tryz.pinned (OpenSpec.ofChange omegaInvariantWrong)

/-- 'disjointlaw24.OmegaSubset': WHATEVER THE INPUT: true; the input reads as it did. -/
def omegaSubsetSpec : ChangeSpec := { name := "omegaSubset", fn := fun _ => fun
  | [d1, d2, d3] => { results := [.lit (.bool true)], args := [d1, d2, d3] }
  | _ => none }
def omegaSubsetRow : OpenClaim := { program := "ytipdkfmhfakbnaagreatdoor", sum := "39c10801135b55c28ecb0a43a7f3922f969468b731b13cfbf4ce6e3f4c224348", func := "disjoint/disjointlaw24.OmegaSubset", spec := "omegaSubset", inPlace := ["internal/abi.NoEscape", "internal/bytealg.MakeNoZero"], unfollowed := true, recurses := true, named := ["internal/strconv.uint64pow10", "math/bits.deBruijn32tab", "math/bits.deBruijn64tab"], apart := false, laid := [("math/bits.deBruijn32tab", laid_math_bits_deBruijn32tab), ("math/bits.deBruijn64tab", laid_math_bits_deBruijn64tab), ("internal/strconv.uint64pow10", laid_internal_strconv_uint64pow10)] }
def OmegaSubsetSaid : Prop := omegaSubsetRow.holds Tryz.pinned (OpenSpec.ofChange omegaSubsetSpec)

/-- ITS FALSE NEIGHBOUR: 'it returns false'. Refute it at one input. -/
def omegaSubsetWrong : ChangeSpec := { name := "omegaSubset", fn := fun _ => fun
  | [d1, d2, d3] => { results := [.lit (.bool false)], args := [d1, d2, d3] }
  | _ => none }
def OmegaSubsetWrongFalsely : Prop := omegaSubsetRow.holds Tryz.pinned (OpenSpec.ofChange omegaSubsetWrong)

/-- 'disjointlaw24.OmegaSatisfies': WHATEVER THE INPUT: true; the input reads as it did. -/
def omegaSatisfiesSpec : ChangeSpec := { name := "omegaSatisfies", fn := fun _ => fun
  | [d1, d2, d3] => { results := [.lit (.bool true)], args := [d1, d2, d3] }
  | _ => none }
def omegaSatisfiesRow : OpenClaim := { program := "ytipdkfmhfakbnaagreatdoor", sum := "39c10801135b55c28ecb0a43a7f3922f969468b731b13cfbf4ce6e3f4c224348", func := "disjoint/disjointlaw24.OmegaSatisfies", spec := "omegaSatisfies", inPlace := ["internal/abi.NoEscape", "internal/bytealg.MakeNoZero"], unfollowed := true, recurses := true, named := ["internal/strconv.uint64pow10", "math/bits.deBruijn32tab", "math/bits.deBruijn64tab"], apart := false, laid := [("math/bits.deBruijn32tab", laid_math_bits_deBruijn32tab), ("math/bits.deBruijn64tab", laid_math_bits_deBruijn64tab), ("internal/strconv.uint64pow10", laid_internal_strconv_uint64pow10)] }
def OmegaSatisfiesSaid : Prop := omegaSatisfiesRow.holds Tryz.pinned (OpenSpec.ofChange omegaSatisfiesSpec)

/-- ITS FALSE NEIGHBOUR: 'it returns false'. Refute it at one input. -/
def omegaSatisfiesWrong : ChangeSpec := { name := "omegaSatisfies", fn := fun _ => fun
  | [d1, d2, d3] => { results := [.lit (.bool false)], args := [d1, d2, d3] }
  | _ => none }
def OmegaSatisfiesWrongFalsely : Prop := omegaSatisfiesRow.holds Tryz.pinned (OpenSpec.ofChange omegaSatisfiesWrong)

/-- 'disjointlaw24.OmegaEquations': WHATEVER THE INPUT: true; the input reads as it did. -/
def omegaEquationsSpec : ChangeSpec := { name := "omegaEquations", fn := fun _ => fun
  | [d1, d2, d3] => { results := [.lit (.bool true)], args := [d1, d2, d3] }
  | _ => none }
def omegaEquationsRow : OpenClaim := { program := "ytipdkfmhfakbnaagreatdoor", sum := "39c10801135b55c28ecb0a43a7f3922f969468b731b13cfbf4ce6e3f4c224348", func := "disjoint/disjointlaw24.OmegaEquations", spec := "omegaEquations", inPlace := ["internal/abi.NoEscape", "internal/bytealg.MakeNoZero"], unfollowed := true, recurses := true, named := ["internal/strconv.uint64pow10", "math/bits.deBruijn32tab", "math/bits.deBruijn64tab"], apart := false, laid := [("math/bits.deBruijn32tab", laid_math_bits_deBruijn32tab), ("math/bits.deBruijn64tab", laid_math_bits_deBruijn64tab), ("internal/strconv.uint64pow10", laid_internal_strconv_uint64pow10)] }
def OmegaEquationsSaid : Prop := omegaEquationsRow.holds Tryz.pinned (OpenSpec.ofChange omegaEquationsSpec)

/-- ITS FALSE NEIGHBOUR: 'it returns false'. Refute it at one input. -/
def omegaEquationsWrong : ChangeSpec := { name := "omegaEquations", fn := fun _ => fun
  | [d1, d2, d3] => { results := [.lit (.bool false)], args := [d1, d2, d3] }
  | _ => none }
def OmegaEquationsWrongFalsely : Prop := omegaEquationsRow.holds Tryz.pinned (OpenSpec.ofChange omegaEquationsWrong)

/- THE SECOND FORM. 'bulk': how many values and letters a reading holds, each counted each time it is reached (what is shared counts as often as it is met; a slice's spare places count too). A statement '..UptoSaid' is the law's where the arguments, and the package variables that the reading takes, are together of bulk at most 1048576: NARROWER than '..Said'. Prove '..Said' where nothing that the law and all that it calls make is longer than what came in: it says more and counts as full. Else prove '..UptoSaid'. A law counts once. -/
mutual
def uptoBulk {H : Type} : DataW H → Nat
  | .lit (.string bytes) => bytes.length + 1
  | .lit _ => 1
  | .nil => 1
  | .ptr d => uptoBulk d + 1
  | .slice elems spare => uptoBulkAll elems + uptoBulkAll spare + 1
  | .agg parts => uptoBulkAll parts + 1
  | .iface _ d => uptoBulk d + 1
  | .map entries => uptoBulkEntries entries + 1
  | .held _ => 1
def uptoBulkAll {H : Type} : List (DataW H) → Nat
  | [] => 0
  | d :: r => uptoBulk d + uptoBulkAll r
def uptoBulkEntries {H : Type} : List (Lit × DataW H) → Nat
  | [] => 0
  | x :: r => uptoBulkEntry x + uptoBulkEntries r
def uptoBulkEntry {H : Type} : Lit × DataW H → Nat
  | (.string bytes, d) => bytes.length + uptoBulk d + 1
  | (_, d) => uptoBulk d + 1
 end
def uptoSmall : (H : Type) → List (DataW H) → Bool := fun _ ds => decide (uptoBulkAll ds ≤ 1048576)
def OpenSpec.upto (s : _root_.Go.ChangeSpec) : _root_.Go.OpenSpec := { _root_.Go.OpenSpec.ofChange s with cond := some uptoSmall }

/-- 'disjointlaw24.OmegaSolve', WHERE WHAT IT READS IS OF BULK AT MOST 1048576: true; the input reads as it did. -/
def omegaSolveUptoRow : OpenClaim := { program := "ytipdkfmhfakbnaagreatdoor", sum := "39c10801135b55c28ecb0a43a7f3922f969468b731b13cfbf4ce6e3f4c224348", func := "disjoint/disjointlaw24.OmegaSolve", spec := "omegaSolve", inPlace := ["internal/abi.NoEscape", "internal/bytealg.MakeNoZero"], unfollowed := true, recurses := true, named := ["internal/strconv.uint64pow10", "math/bits.deBruijn32tab", "math/bits.deBruijn64tab"], apart := false, laid := [("math/bits.deBruijn32tab", laid_math_bits_deBruijn32tab), ("math/bits.deBruijn64tab", laid_math_bits_deBruijn64tab), ("internal/strconv.uint64pow10", laid_internal_strconv_uint64pow10)], narrowed := true }
def OmegaSolveUptoSaid : Prop := omegaSolveUptoRow.holds Tryz.pinned (OpenSpec.upto omegaSolveSpec)

/-- 'disjointlaw24.OmegaBoxed', WHERE WHAT IT READS IS OF BULK AT MOST 1048576: true; the input reads as it did. -/
def omegaBoxedUptoRow : OpenClaim := { program := "ytipdkfmhfakbnaagreatdoor", sum := "39c10801135b55c28ecb0a43a7f3922f969468b731b13cfbf4ce6e3f4c224348", func := "disjoint/disjointlaw24.OmegaBoxed", spec := "omegaBoxed", inPlace := ["internal/abi.NoEscape", "internal/bytealg.MakeNoZero"], unfollowed := true, recurses := true, named := ["internal/strconv.uint64pow10", "math/bits.deBruijn32tab", "math/bits.deBruijn64tab"], apart := false, laid := [("math/bits.deBruijn32tab", laid_math_bits_deBruijn32tab), ("math/bits.deBruijn64tab", laid_math_bits_deBruijn64tab), ("internal/strconv.uint64pow10", laid_internal_strconv_uint64pow10)], narrowed := true }
def OmegaBoxedUptoSaid : Prop := omegaBoxedUptoRow.holds Tryz.pinned (OpenSpec.upto omegaBoxedSpec)

/-- 'disjointlaw24.OmegaLeast', WHERE WHAT IT READS IS OF BULK AT MOST 1048576: true; the input reads as it did. -/
def omegaLeastUptoRow : OpenClaim := { program := "ytipdkfmhfakbnaagreatdoor", sum := "39c10801135b55c28ecb0a43a7f3922f969468b731b13cfbf4ce6e3f4c224348", func := "disjoint/disjointlaw24.OmegaLeast", spec := "omegaLeast", inPlace := ["internal/abi.NoEscape", "internal/bytealg.MakeNoZero"], unfollowed := true, recurses := true, named := ["internal/strconv.uint64pow10", "math/bits.deBruijn32tab", "math/bits.deBruijn64tab"], apart := false, laid := [("math/bits.deBruijn32tab", laid_math_bits_deBruijn32tab), ("math/bits.deBruijn64tab", laid_math_bits_deBruijn64tab), ("internal/strconv.uint64pow10", laid_internal_strconv_uint64pow10)], narrowed := true }
def OmegaLeastUptoSaid : Prop := omegaLeastUptoRow.holds Tryz.pinned (OpenSpec.upto omegaLeastSpec)

/-- 'disjointlaw24.OmegaInvariant', WHERE WHAT IT READS IS OF BULK AT MOST 1048576: true; the input reads as it did. -/
def omegaInvariantUptoRow : OpenClaim := { program := "ytipdkfmhfakbnaagreatdoor", sum := "39c10801135b55c28ecb0a43a7f3922f969468b731b13cfbf4ce6e3f4c224348", func := "disjoint/disjointlaw24.OmegaInvariant", spec := "omegaInvariant", inPlace := ["internal/abi.NoEscape", "internal/bytealg.MakeNoZero"], unfollowed := true, recurses := true, named := ["internal/strconv.uint64pow10", "math/bits.deBruijn32tab", "math/bits.deBruijn64tab"], apart := false, laid := [("math/bits.deBruijn32tab", laid_math_bits_deBruijn32tab), ("math/bits.deBruijn64tab", laid_math_bits_deBruijn64tab), ("internal/strconv.uint64pow10", laid_internal_strconv_uint64pow10)], narrowed := true }
def OmegaInvariantUptoSaid : Prop := omegaInvariantUptoRow.holds Tryz.pinned (OpenSpec.upto omegaInvariantSpec)

/-- 'disjointlaw24.OmegaSubset', WHERE WHAT IT READS IS OF BULK AT MOST 1048576: true; the input reads as it did. -/
def omegaSubsetUptoRow : OpenClaim := { program := "ytipdkfmhfakbnaagreatdoor", sum := "39c10801135b55c28ecb0a43a7f3922f969468b731b13cfbf4ce6e3f4c224348", func := "disjoint/disjointlaw24.OmegaSubset", spec := "omegaSubset", inPlace := ["internal/abi.NoEscape", "internal/bytealg.MakeNoZero"], unfollowed := true, recurses := true, named := ["internal/strconv.uint64pow10", "math/bits.deBruijn32tab", "math/bits.deBruijn64tab"], apart := false, laid := [("math/bits.deBruijn32tab", laid_math_bits_deBruijn32tab), ("math/bits.deBruijn64tab", laid_math_bits_deBruijn64tab), ("internal/strconv.uint64pow10", laid_internal_strconv_uint64pow10)], narrowed := true }
def OmegaSubsetUptoSaid : Prop := omegaSubsetUptoRow.holds Tryz.pinned (OpenSpec.upto omegaSubsetSpec)

/-- 'disjointlaw24.OmegaSatisfies', WHERE WHAT IT READS IS OF BULK AT MOST 1048576: true; the input reads as it did. -/
def omegaSatisfiesUptoRow : OpenClaim := { program := "ytipdkfmhfakbnaagreatdoor", sum := "39c10801135b55c28ecb0a43a7f3922f969468b731b13cfbf4ce6e3f4c224348", func := "disjoint/disjointlaw24.OmegaSatisfies", spec := "omegaSatisfies", inPlace := ["internal/abi.NoEscape", "internal/bytealg.MakeNoZero"], unfollowed := true, recurses := true, named := ["internal/strconv.uint64pow10", "math/bits.deBruijn32tab", "math/bits.deBruijn64tab"], apart := false, laid := [("math/bits.deBruijn32tab", laid_math_bits_deBruijn32tab), ("math/bits.deBruijn64tab", laid_math_bits_deBruijn64tab), ("internal/strconv.uint64pow10", laid_internal_strconv_uint64pow10)], narrowed := true }
def OmegaSatisfiesUptoSaid : Prop := omegaSatisfiesUptoRow.holds Tryz.pinned (OpenSpec.upto omegaSatisfiesSpec)

/-- 'disjointlaw24.OmegaEquations', WHERE WHAT IT READS IS OF BULK AT MOST 1048576: true; the input reads as it did. -/
def omegaEquationsUptoRow : OpenClaim := { program := "ytipdkfmhfakbnaagreatdoor", sum := "39c10801135b55c28ecb0a43a7f3922f969468b731b13cfbf4ce6e3f4c224348", func := "disjoint/disjointlaw24.OmegaEquations", spec := "omegaEquations", inPlace := ["internal/abi.NoEscape", "internal/bytealg.MakeNoZero"], unfollowed := true, recurses := true, named := ["internal/strconv.uint64pow10", "math/bits.deBruijn32tab", "math/bits.deBruijn64tab"], apart := false, laid := [("math/bits.deBruijn32tab", laid_math_bits_deBruijn32tab), ("math/bits.deBruijn64tab", laid_math_bits_deBruijn64tab), ("internal/strconv.uint64pow10", laid_internal_strconv_uint64pow10)], narrowed := true }
def OmegaEquationsUptoSaid : Prop := omegaEquationsUptoRow.holds Tryz.pinned (OpenSpec.upto omegaEquationsSpec)

end Rows
end Go.Proofs.YtipdkfmhfakbnaaGreatDoor
