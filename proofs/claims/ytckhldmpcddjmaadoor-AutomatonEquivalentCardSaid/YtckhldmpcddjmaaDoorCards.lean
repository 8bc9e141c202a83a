/-
  DERIVED. GIVEN WITH THE SEED: THE CARDS: each row of YtckhldmpcddjmaaDoorRows.lean that lists a variable, with what it lists TIED to the program's text (the seventh form; the later family's looks); each row that meets fmt, with fmt's text TOLD by the authors' own Lean function (tested against real Go, not proved from fmt's source: count such statements apart). THE CARD IS WHAT COUNTS. Prove the row's statement (the work); the ties are given (YtckhldmpcddjmaaDoorTie.lean); close each card by the builder's one call (the guide's Derived/Test/ToyasCard.lean, 'card_holds'). Laid BY PROGRAM, IN A SANDBOX (cutbox-door.mjs). By AI agents, Wed Nov 11 2026. No macro, syntax, notation, axiom, sorry.
-/
import Derived.Test.YtckhldmpcddjmaaDoorRows
import GoSem.ClaimSeven
namespace Go.Proofs.YtckhldmpcddjmaaDoor
namespace Rows

/-- THE TIED CARD OF 'disjointlaw20.AutomatonShortest'. -/
def automatonShortestCard : Claim7 := { stood := { row := automatonShortestRow, standIns := [], harness := (true, "91a086fae84c2626c39d9d497df5b8d5176c2a9a182d419d0017bbe60c13bd53"), looks := false }, kinds := [], alts := [], laidByText := true, laidKinds := [.data, .data, .data], laidTests := true, laidLooks := .later }
def AutomatonShortestCardSaid : Prop := Claim7.holds Tryd.pinned (.plain (OpenSpec.ofChange automatonShortestSpec)) automatonShortestCard

/-- THE TIED CARD OF 'disjointlaw20.AutomatonAccepts'. -/
def automatonAcceptsCard : Claim7 := { stood := { row := automatonAcceptsRow, standIns := [], harness := (true, "91a086fae84c2626c39d9d497df5b8d5176c2a9a182d419d0017bbe60c13bd53"), looks := false }, kinds := [], alts := [], laidByText := true, laidKinds := [.data, .data, .data], laidTests := true, laidLooks := .later }
def AutomatonAcceptsCardSaid : Prop := Claim7.holds Tryd.pinned (.plain (OpenSpec.ofChange automatonAcceptsSpec)) automatonAcceptsCard

/-- THE TIED CARD OF 'disjointlaw20.AutomatonMinimize'. -/
def automatonMinimizeCard : Claim7 := { stood := { row := automatonMinimizeRow, standIns := [], harness := (true, "91a086fae84c2626c39d9d497df5b8d5176c2a9a182d419d0017bbe60c13bd53"), looks := false }, kinds := [], alts := [], laidByText := true, laidKinds := [.data, .data, .data], laidTests := true, laidLooks := .later }
def AutomatonMinimizeCardSaid : Prop := Claim7.holds Tryd.pinned (.plain (OpenSpec.ofChange automatonMinimizeSpec)) automatonMinimizeCard

/-- THE TIED CARD OF 'disjointlaw20.AutomatonEquivalent'. -/
def automatonEquivalentCard : Claim7 := { stood := { row := automatonEquivalentRow, standIns := [], harness := (true, "91a086fae84c2626c39d9d497df5b8d5176c2a9a182d419d0017bbe60c13bd53"), looks := false }, kinds := [], alts := [], laidByText := true, laidKinds := [.data, .data, .data], laidTests := true, laidLooks := .later }
def AutomatonEquivalentCardSaid : Prop := Claim7.holds Tryd.pinned (.plain (OpenSpec.ofChange automatonEquivalentSpec)) automatonEquivalentCard

/-- THE TIED CARD OF 'disjointlaw20.AutomatonAtMost'. -/
def automatonAtMostCard : Claim7 := { stood := { row := automatonAtMostRow, standIns := [], harness := (true, "91a086fae84c2626c39d9d497df5b8d5176c2a9a182d419d0017bbe60c13bd53"), looks := false }, kinds := [], alts := [], laidByText := true, laidKinds := [.data, .data, .data], laidTests := true, laidLooks := .later }
def AutomatonAtMostCardSaid : Prop := Claim7.holds Tryd.pinned (.plain (OpenSpec.ofChange automatonAtMostSpec)) automatonAtMostCard

/-- THE TIED CARD OF 'disjointlaw20.AutomatonAnd'. -/
def automatonAndCard : Claim7 := { stood := { row := automatonAndRow, standIns := [], harness := (true, "91a086fae84c2626c39d9d497df5b8d5176c2a9a182d419d0017bbe60c13bd53"), looks := false }, kinds := [], alts := [], laidByText := true, laidKinds := [.data, .data, .data], laidTests := true, laidLooks := .later }
def AutomatonAndCardSaid : Prop := Claim7.holds Tryd.pinned (.plain (OpenSpec.ofChange automatonAndSpec)) automatonAndCard

/-- THE TIED CARD OF 'disjointlaw20.AutomatonNot'. -/
def automatonNotCard : Claim7 := { stood := { row := automatonNotRow, standIns := [], harness := (true, "91a086fae84c2626c39d9d497df5b8d5176c2a9a182d419d0017bbe60c13bd53"), looks := false }, kinds := [], alts := [], laidByText := true, laidKinds := [.data, .data, .data], laidTests := true, laidLooks := .later }
def AutomatonNotCardSaid : Prop := Claim7.holds Tryd.pinned (.plain (OpenSpec.ofChange automatonNotSpec)) automatonNotCard

/-- THE TIED CARD OF 'disjointlaw20.AutomatonAlgebra'. -/
def automatonAlgebraCard : Claim7 := { stood := { row := automatonAlgebraRow, standIns := [], harness := (true, "91a086fae84c2626c39d9d497df5b8d5176c2a9a182d419d0017bbe60c13bd53"), looks := false }, kinds := [], alts := [], laidByText := true, laidKinds := [.data, .data, .data], laidTests := true, laidLooks := .later }
def AutomatonAlgebraCardSaid : Prop := Claim7.holds Tryd.pinned (.plain (OpenSpec.ofChange automatonAlgebraSpec)) automatonAlgebraCard

/-- THE SECOND FORM's CARD OF 'disjointlaw20.AutomatonShortest'. -/
def automatonShortestUptoCard : Claim7 := { stood := { row := automatonShortestUptoRow, standIns := [], harness := (true, "91a086fae84c2626c39d9d497df5b8d5176c2a9a182d419d0017bbe60c13bd53"), looks := false }, kinds := [], alts := [], laidByText := true, laidKinds := [.data, .data, .data], laidTests := true, laidLooks := .later }
def AutomatonShortestUptoCardSaid : Prop := Claim7.holds Tryd.pinned (.plain (OpenSpec.upto automatonShortestSpec)) automatonShortestUptoCard

/-- THE SECOND FORM's CARD OF 'disjointlaw20.AutomatonAccepts'. -/
def automatonAcceptsUptoCard : Claim7 := { stood := { row := automatonAcceptsUptoRow, standIns := [], harness := (true, "91a086fae84c2626c39d9d497df5b8d5176c2a9a182d419d0017bbe60c13bd53"), looks := false }, kinds := [], alts := [], laidByText := true, laidKinds := [.data, .data, .data], laidTests := true, laidLooks := .later }
def AutomatonAcceptsUptoCardSaid : Prop := Claim7.holds Tryd.pinned (.plain (OpenSpec.upto automatonAcceptsSpec)) automatonAcceptsUptoCard

/-- THE SECOND FORM's CARD OF 'disjointlaw20.AutomatonMinimize'. -/
def automatonMinimizeUptoCard : Claim7 := { stood := { row := automatonMinimizeUptoRow, standIns := [], harness := (true, "91a086fae84c2626c39d9d497df5b8d5176c2a9a182d419d0017bbe60c13bd53"), looks := false }, kinds := [], alts := [], laidByText := true, laidKinds := [.data, .data, .data], laidTests := true, laidLooks := .later }
def AutomatonMinimizeUptoCardSaid : Prop := Claim7.holds Tryd.pinned (.plain (OpenSpec.upto automatonMinimizeSpec)) automatonMinimizeUptoCard

/-- THE SECOND FORM's CARD OF 'disjointlaw20.AutomatonEquivalent'. -/
def automatonEquivalentUptoCard : Claim7 := { stood := { row := automatonEquivalentUptoRow, standIns := [], harness := (true, "91a086fae84c2626c39d9d497df5b8d5176c2a9a182d419d0017bbe60c13bd53"), looks := false }, kinds := [], alts := [], laidByText := true, laidKinds := [.data, .data, .data], laidTests := true, laidLooks := .later }
def AutomatonEquivalentUptoCardSaid : Prop := Claim7.holds Tryd.pinned (.plain (OpenSpec.upto automatonEquivalentSpec)) automatonEquivalentUptoCard

/-- THE SECOND FORM's CARD OF 'disjointlaw20.AutomatonAtMost'. -/
def automatonAtMostUptoCard : Claim7 := { stood := { row := automatonAtMostUptoRow, standIns := [], harness := (true, "91a086fae84c2626c39d9d497df5b8d5176c2a9a182d419d0017bbe60c13bd53"), looks := false }, kinds := [], alts := [], laidByText := true, laidKinds := [.data, .data, .data], laidTests := true, laidLooks := .later }
def AutomatonAtMostUptoCardSaid : Prop := Claim7.holds Tryd.pinned (.plain (OpenSpec.upto automatonAtMostSpec)) automatonAtMostUptoCard

/-- THE SECOND FORM's CARD OF 'disjointlaw20.AutomatonAnd'. -/
def automatonAndUptoCard : Claim7 := { stood := { row := automatonAndUptoRow, standIns := [], harness := (true, "91a086fae84c2626c39d9d497df5b8d5176c2a9a182d419d0017bbe60c13bd53"), looks := false }, kinds := [], alts := [], laidByText := true, laidKinds := [.data, .data, .data], laidTests := true, laidLooks := .later }
def AutomatonAndUptoCardSaid : Prop := Claim7.holds Tryd.pinned (.plain (OpenSpec.upto automatonAndSpec)) automatonAndUptoCard

/-- THE SECOND FORM's CARD OF 'disjointlaw20.AutomatonNot'. -/
def automatonNotUptoCard : Claim7 := { stood := { row := automatonNotUptoRow, standIns := [], harness := (true, "91a086fae84c2626c39d9d497df5b8d5176c2a9a182d419d0017bbe60c13bd53"), looks := false }, kinds := [], alts := [], laidByText := true, laidKinds := [.data, .data, .data], laidTests := true, laidLooks := .later }
def AutomatonNotUptoCardSaid : Prop := Claim7.holds Tryd.pinned (.plain (OpenSpec.upto automatonNotSpec)) automatonNotUptoCard

/-- THE SECOND FORM's CARD OF 'disjointlaw20.AutomatonAlgebra'. -/
def automatonAlgebraUptoCard : Claim7 := { stood := { row := automatonAlgebraUptoRow, standIns := [], harness := (true, "91a086fae84c2626c39d9d497df5b8d5176c2a9a182d419d0017bbe60c13bd53"), looks := false }, kinds := [], alts := [], laidByText := true, laidKinds := [.data, .data, .data], laidTests := true, laidLooks := .later }
def AutomatonAlgebraUptoCardSaid : Prop := Claim7.holds Tryd.pinned (.plain (OpenSpec.upto automatonAlgebraSpec)) automatonAlgebraUptoCard
end Rows
end Go.Proofs.YtckhldmpcddjmaaDoor
