/-
  DERIVED. GIVEN WITH THE SEED: THE CARDS: each row of YtipdkfmhfakbnaaGreatDoorRows.lean that lists a variable, with what it lists TIED to the program's text (the seventh form; the later family's looks); each row that meets fmt, with fmt's text TOLD by the authors' own Lean function (tested against real Go, not proved from fmt's source: count such statements apart). THE CARD IS WHAT COUNTS. Prove the row's statement (the work); the ties are given (YtipdkfmhfakbnaaGreatDoorTie.lean); close each card by the builder's one call (the guide's Derived/Test/ToyasCard.lean, 'card_holds'). Laid BY PROGRAM, IN A SANDBOX (cutbox-door.mjs). By AI agents, Wed Nov 11 2026. No macro, syntax, notation, axiom, sorry.
-/
import Derived.Test.YtipdkfmhfakbnaaGreatDoorRows
import GoSem.ClaimSeven
namespace Go.Proofs.YtipdkfmhfakbnaaGreatDoor
namespace Rows

/-- THE TIED CARD OF 'disjointlaw24.OmegaSolve'. -/
def omegaSolveCard : Claim7 := { stood := { row := omegaSolveRow, standIns := [], harness := (true, "c97c70e6e24451b8fb48914254b75e4f2a1edb210eae0016d0140d3afd8ae878"), looks := false }, kinds := [], alts := [], laidByText := true, laidKinds := [.data, .data, .data], laidTests := true, laidLooks := .later }
def OmegaSolveCardSaid : Prop := Claim7.holds Tryz.pinned (.plain (OpenSpec.ofChange omegaSolveSpec)) omegaSolveCard

/-- THE TIED CARD OF 'disjointlaw24.OmegaBoxed'. -/
def omegaBoxedCard : Claim7 := { stood := { row := omegaBoxedRow, standIns := [], harness := (true, "c97c70e6e24451b8fb48914254b75e4f2a1edb210eae0016d0140d3afd8ae878"), looks := false }, kinds := [], alts := [], laidByText := true, laidKinds := [.data, .data, .data], laidTests := true, laidLooks := .later }
def OmegaBoxedCardSaid : Prop := Claim7.holds Tryz.pinned (.plain (OpenSpec.ofChange omegaBoxedSpec)) omegaBoxedCard

/-- THE TIED CARD OF 'disjointlaw24.OmegaLeast'. -/
def omegaLeastCard : Claim7 := { stood := { row := omegaLeastRow, standIns := [], harness := (true, "c97c70e6e24451b8fb48914254b75e4f2a1edb210eae0016d0140d3afd8ae878"), looks := false }, kinds := [], alts := [], laidByText := true, laidKinds := [.data, .data, .data], laidTests := true, laidLooks := .later }
def OmegaLeastCardSaid : Prop := Claim7.holds Tryz.pinned (.plain (OpenSpec.ofChange omegaLeastSpec)) omegaLeastCard

/-- THE TIED CARD OF 'disjointlaw24.OmegaInvariant'. -/
def omegaInvariantCard : Claim7 := { stood := { row := omegaInvariantRow, standIns := [], harness := (true, "c97c70e6e24451b8fb48914254b75e4f2a1edb210eae0016d0140d3afd8ae878"), looks := false }, kinds := [], alts := [], laidByText := true, laidKinds := [.data, .data, .data], laidTests := true, laidLooks := .later }
def OmegaInvariantCardSaid : Prop := Claim7.holds Tryz.pinned (.plain (OpenSpec.ofChange omegaInvariantSpec)) omegaInvariantCard

/-- THE TIED CARD OF 'disjointlaw24.OmegaSubset'. -/
def omegaSubsetCard : Claim7 := { stood := { row := omegaSubsetRow, standIns := [], harness := (true, "c97c70e6e24451b8fb48914254b75e4f2a1edb210eae0016d0140d3afd8ae878"), looks := false }, kinds := [], alts := [], laidByText := true, laidKinds := [.data, .data, .data], laidTests := true, laidLooks := .later }
def OmegaSubsetCardSaid : Prop := Claim7.holds Tryz.pinned (.plain (OpenSpec.ofChange omegaSubsetSpec)) omegaSubsetCard

/-- THE TIED CARD OF 'disjointlaw24.OmegaSatisfies'. -/
def omegaSatisfiesCard : Claim7 := { stood := { row := omegaSatisfiesRow, standIns := [], harness := (true, "c97c70e6e24451b8fb48914254b75e4f2a1edb210eae0016d0140d3afd8ae878"), looks := false }, kinds := [], alts := [], laidByText := true, laidKinds := [.data, .data, .data], laidTests := true, laidLooks := .later }
def OmegaSatisfiesCardSaid : Prop := Claim7.holds Tryz.pinned (.plain (OpenSpec.ofChange omegaSatisfiesSpec)) omegaSatisfiesCard

/-- THE TIED CARD OF 'disjointlaw24.OmegaEquations'. -/
def omegaEquationsCard : Claim7 := { stood := { row := omegaEquationsRow, standIns := [], harness := (true, "c97c70e6e24451b8fb48914254b75e4f2a1edb210eae0016d0140d3afd8ae878"), looks := false }, kinds := [], alts := [], laidByText := true, laidKinds := [.data, .data, .data], laidTests := true, laidLooks := .later }
def OmegaEquationsCardSaid : Prop := Claim7.holds Tryz.pinned (.plain (OpenSpec.ofChange omegaEquationsSpec)) omegaEquationsCard

/-- THE SECOND FORM's CARD OF 'disjointlaw24.OmegaSolve'. -/
def omegaSolveUptoCard : Claim7 := { stood := { row := omegaSolveUptoRow, standIns := [], harness := (true, "c97c70e6e24451b8fb48914254b75e4f2a1edb210eae0016d0140d3afd8ae878"), looks := false }, kinds := [], alts := [], laidByText := true, laidKinds := [.data, .data, .data], laidTests := true, laidLooks := .later }
def OmegaSolveUptoCardSaid : Prop := Claim7.holds Tryz.pinned (.plain (OpenSpec.upto omegaSolveSpec)) omegaSolveUptoCard

/-- THE SECOND FORM's CARD OF 'disjointlaw24.OmegaBoxed'. -/
def omegaBoxedUptoCard : Claim7 := { stood := { row := omegaBoxedUptoRow, standIns := [], harness := (true, "c97c70e6e24451b8fb48914254b75e4f2a1edb210eae0016d0140d3afd8ae878"), looks := false }, kinds := [], alts := [], laidByText := true, laidKinds := [.data, .data, .data], laidTests := true, laidLooks := .later }
def OmegaBoxedUptoCardSaid : Prop := Claim7.holds Tryz.pinned (.plain (OpenSpec.upto omegaBoxedSpec)) omegaBoxedUptoCard

/-- THE SECOND FORM's CARD OF 'disjointlaw24.OmegaLeast'. -/
def omegaLeastUptoCard : Claim7 := { stood := { row := omegaLeastUptoRow, standIns := [], harness := (true, "c97c70e6e24451b8fb48914254b75e4f2a1edb210eae0016d0140d3afd8ae878"), looks := false }, kinds := [], alts := [], laidByText := true, laidKinds := [.data, .data, .data], laidTests := true, laidLooks := .later }
def OmegaLeastUptoCardSaid : Prop := Claim7.holds Tryz.pinned (.plain (OpenSpec.upto omegaLeastSpec)) omegaLeastUptoCard

/-- THE SECOND FORM's CARD OF 'disjointlaw24.OmegaInvariant'. -/
def omegaInvariantUptoCard : Claim7 := { stood := { row := omegaInvariantUptoRow, standIns := [], harness := (true, "c97c70e6e24451b8fb48914254b75e4f2a1edb210eae0016d0140d3afd8ae878"), looks := false }, kinds := [], alts := [], laidByText := true, laidKinds := [.data, .data, .data], laidTests := true, laidLooks := .later }
def OmegaInvariantUptoCardSaid : Prop := Claim7.holds Tryz.pinned (.plain (OpenSpec.upto omegaInvariantSpec)) omegaInvariantUptoCard

/-- THE SECOND FORM's CARD OF 'disjointlaw24.OmegaSubset'. -/
def omegaSubsetUptoCard : Claim7 := { stood := { row := omegaSubsetUptoRow, standIns := [], harness := (true, "c97c70e6e24451b8fb48914254b75e4f2a1edb210eae0016d0140d3afd8ae878"), looks := false }, kinds := [], alts := [], laidByText := true, laidKinds := [.data, .data, .data], laidTests := true, laidLooks := .later }
def OmegaSubsetUptoCardSaid : Prop := Claim7.holds Tryz.pinned (.plain (OpenSpec.upto omegaSubsetSpec)) omegaSubsetUptoCard

/-- THE SECOND FORM's CARD OF 'disjointlaw24.OmegaSatisfies'. -/
def omegaSatisfiesUptoCard : Claim7 := { stood := { row := omegaSatisfiesUptoRow, standIns := [], harness := (true, "c97c70e6e24451b8fb48914254b75e4f2a1edb210eae0016d0140d3afd8ae878"), looks := false }, kinds := [], alts := [], laidByText := true, laidKinds := [.data, .data, .data], laidTests := true, laidLooks := .later }
def OmegaSatisfiesUptoCardSaid : Prop := Claim7.holds Tryz.pinned (.plain (OpenSpec.upto omegaSatisfiesSpec)) omegaSatisfiesUptoCard

/-- THE SECOND FORM's CARD OF 'disjointlaw24.OmegaEquations'. -/
def omegaEquationsUptoCard : Claim7 := { stood := { row := omegaEquationsUptoRow, standIns := [], harness := (true, "c97c70e6e24451b8fb48914254b75e4f2a1edb210eae0016d0140d3afd8ae878"), looks := false }, kinds := [], alts := [], laidByText := true, laidKinds := [.data, .data, .data], laidTests := true, laidLooks := .later }
def OmegaEquationsUptoCardSaid : Prop := Claim7.holds Tryz.pinned (.plain (OpenSpec.upto omegaEquationsSpec)) omegaEquationsUptoCard
end Rows
end Go.Proofs.YtipdkfmhfakbnaaGreatDoor
