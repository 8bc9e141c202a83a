/-
  DERIVED. GIVEN WITH THE SEED: THE CARDS: each row of YtcakdidcpoolcaaGreatDoorRows.lean that lists a variable, with what it lists TIED to the program's text (the seventh form; the later family's looks); each row that meets fmt, with fmt's text TOLD by the authors' own Lean function (tested against real Go, not proved from fmt's source: count such statements apart). THE CARD IS WHAT COUNTS. Prove the row's statement (the work); the ties are given (YtcakdidcpoolcaaGreatDoorTie.lean); close each card by the builder's one call (the guide's Derived/Test/ToyasCard.lean, 'card_holds'). Laid BY PROGRAM, IN A SANDBOX (cutbox-door.mjs). By AI agents, Wed Nov 11 2026. No macro, syntax, notation, axiom, sorry.
-/
import Derived.Test.YtcakdidcpoolcaaGreatDoorRows
import GoSem.ClaimSeven
namespace Go.Proofs.YtcakdidcpoolcaaGreatDoor
namespace Rows

/-- THE TIED CARD OF 'disjointlaw25.RefutationInts'. -/
def refutationIntsCard : Claim7 := { stood := { row := refutationIntsRow, standIns := [], harness := (true, "077465536344735dbd53ec1ad5f886e68ae97b85fcbffa7e8bef43b3015d2ece"), looks := false }, kinds := [], alts := [], laidByText := true, laidKinds := [.data, .data, .data], laidTests := true, laidLooks := .later }
def RefutationIntsCardSaid : Prop := Claim7.holds Tryz.pinned (.plain (OpenSpec.ofChange refutationIntsSpec)) refutationIntsCard

/-- THE TIED CARD OF 'disjointlaw25.RefutationTexts'. -/
def refutationTextsCard : Claim7 := { stood := { row := refutationTextsRow, standIns := [], harness := (true, "077465536344735dbd53ec1ad5f886e68ae97b85fcbffa7e8bef43b3015d2ece"), looks := false }, kinds := [], alts := [], laidByText := true, laidKinds := [.data, .data, .data], laidTests := true, laidLooks := .later }
def RefutationTextsCardSaid : Prop := Claim7.holds Tryz.pinned (.plain (OpenSpec.ofChange refutationTextsSpec)) refutationTextsCard

/-- THE TIED CARD OF 'disjointlaw25.RefutationComplete'. -/
def refutationCompleteCard : Claim7 := { stood := { row := refutationCompleteRow, standIns := [], harness := (true, "077465536344735dbd53ec1ad5f886e68ae97b85fcbffa7e8bef43b3015d2ece"), looks := false }, kinds := [], alts := [], laidByText := true, laidKinds := [.data, .data, .data], laidTests := true, laidLooks := .later }
def RefutationCompleteCardSaid : Prop := Claim7.holds Tryz.pinned (.plain (OpenSpec.ofChange refutationCompleteSpec)) refutationCompleteCard

/-- THE TIED CARD OF 'disjointlaw25.RefutationCheck'. -/
def refutationCheckCard : Claim7 := { stood := { row := refutationCheckRow, standIns := [], harness := (true, "077465536344735dbd53ec1ad5f886e68ae97b85fcbffa7e8bef43b3015d2ece"), looks := false }, kinds := [], alts := [], laidByText := true, laidKinds := [.data, .data, .data], laidTests := true, laidLooks := .later }
def RefutationCheckCardSaid : Prop := Claim7.holds Tryz.pinned (.plain (OpenSpec.ofChange refutationCheckSpec)) refutationCheckCard

/-- THE TIED CARD OF 'disjointlaw25.RefutationSound'. -/
def refutationSoundCard : Claim7 := { stood := { row := refutationSoundRow, standIns := [], harness := (true, "077465536344735dbd53ec1ad5f886e68ae97b85fcbffa7e8bef43b3015d2ece"), looks := false }, kinds := [], alts := [], laidByText := true, laidKinds := [.data, .data, .data], laidTests := true, laidLooks := .later }
def RefutationSoundCardSaid : Prop := Claim7.holds Tryz.pinned (.plain (OpenSpec.ofChange refutationSoundSpec)) refutationSoundCard

/-- THE TIED CARD OF 'disjointlaw25.RefutationSplit'. -/
def refutationSplitCard : Claim7 := { stood := { row := refutationSplitRow, standIns := [], harness := (true, "077465536344735dbd53ec1ad5f886e68ae97b85fcbffa7e8bef43b3015d2ece"), looks := false }, kinds := [], alts := [], laidByText := true, laidKinds := [.data, .data, .data], laidTests := true, laidLooks := .later }
def RefutationSplitCardSaid : Prop := Claim7.holds Tryz.pinned (.plain (OpenSpec.ofChange refutationSplitSpec)) refutationSplitCard

/-- THE TIED CARD OF 'disjointlaw25.RefutationText'. -/
def refutationTextCard : Claim7 := { stood := { row := refutationTextRow, standIns := [], harness := (true, "077465536344735dbd53ec1ad5f886e68ae97b85fcbffa7e8bef43b3015d2ece"), looks := false }, kinds := [], alts := [], laidByText := true, laidKinds := [.data, .data, .data], laidTests := true, laidLooks := .later }
def RefutationTextCardSaid : Prop := Claim7.holds Tryz.pinned (.plain (OpenSpec.ofChange refutationTextSpec)) refutationTextCard

/-- THE SECOND FORM's CARD OF 'disjointlaw25.RefutationInts'. -/
def refutationIntsUptoCard : Claim7 := { stood := { row := refutationIntsUptoRow, standIns := [], harness := (true, "077465536344735dbd53ec1ad5f886e68ae97b85fcbffa7e8bef43b3015d2ece"), looks := false }, kinds := [], alts := [], laidByText := true, laidKinds := [.data, .data, .data], laidTests := true, laidLooks := .later }
def RefutationIntsUptoCardSaid : Prop := Claim7.holds Tryz.pinned (.plain (OpenSpec.upto refutationIntsSpec)) refutationIntsUptoCard

/-- THE SECOND FORM's CARD OF 'disjointlaw25.RefutationTexts'. -/
def refutationTextsUptoCard : Claim7 := { stood := { row := refutationTextsUptoRow, standIns := [], harness := (true, "077465536344735dbd53ec1ad5f886e68ae97b85fcbffa7e8bef43b3015d2ece"), looks := false }, kinds := [], alts := [], laidByText := true, laidKinds := [.data, .data, .data], laidTests := true, laidLooks := .later }
def RefutationTextsUptoCardSaid : Prop := Claim7.holds Tryz.pinned (.plain (OpenSpec.upto refutationTextsSpec)) refutationTextsUptoCard

/-- THE SECOND FORM's CARD OF 'disjointlaw25.RefutationComplete'. -/
def refutationCompleteUptoCard : Claim7 := { stood := { row := refutationCompleteUptoRow, standIns := [], harness := (true, "077465536344735dbd53ec1ad5f886e68ae97b85fcbffa7e8bef43b3015d2ece"), looks := false }, kinds := [], alts := [], laidByText := true, laidKinds := [.data, .data, .data], laidTests := true, laidLooks := .later }
def RefutationCompleteUptoCardSaid : Prop := Claim7.holds Tryz.pinned (.plain (OpenSpec.upto refutationCompleteSpec)) refutationCompleteUptoCard

/-- THE SECOND FORM's CARD OF 'disjointlaw25.RefutationCheck'. -/
def refutationCheckUptoCard : Claim7 := { stood := { row := refutationCheckUptoRow, standIns := [], harness := (true, "077465536344735dbd53ec1ad5f886e68ae97b85fcbffa7e8bef43b3015d2ece"), looks := false }, kinds := [], alts := [], laidByText := true, laidKinds := [.data, .data, .data], laidTests := true, laidLooks := .later }
def RefutationCheckUptoCardSaid : Prop := Claim7.holds Tryz.pinned (.plain (OpenSpec.upto refutationCheckSpec)) refutationCheckUptoCard

/-- THE SECOND FORM's CARD OF 'disjointlaw25.RefutationSound'. -/
def refutationSoundUptoCard : Claim7 := { stood := { row := refutationSoundUptoRow, standIns := [], harness := (true, "077465536344735dbd53ec1ad5f886e68ae97b85fcbffa7e8bef43b3015d2ece"), looks := false }, kinds := [], alts := [], laidByText := true, laidKinds := [.data, .data, .data], laidTests := true, laidLooks := .later }
def RefutationSoundUptoCardSaid : Prop := Claim7.holds Tryz.pinned (.plain (OpenSpec.upto refutationSoundSpec)) refutationSoundUptoCard

/-- THE SECOND FORM's CARD OF 'disjointlaw25.RefutationSplit'. -/
def refutationSplitUptoCard : Claim7 := { stood := { row := refutationSplitUptoRow, standIns := [], harness := (true, "077465536344735dbd53ec1ad5f886e68ae97b85fcbffa7e8bef43b3015d2ece"), looks := false }, kinds := [], alts := [], laidByText := true, laidKinds := [.data, .data, .data], laidTests := true, laidLooks := .later }
def RefutationSplitUptoCardSaid : Prop := Claim7.holds Tryz.pinned (.plain (OpenSpec.upto refutationSplitSpec)) refutationSplitUptoCard

/-- THE SECOND FORM's CARD OF 'disjointlaw25.RefutationText'. -/
def refutationTextUptoCard : Claim7 := { stood := { row := refutationTextUptoRow, standIns := [], harness := (true, "077465536344735dbd53ec1ad5f886e68ae97b85fcbffa7e8bef43b3015d2ece"), looks := false }, kinds := [], alts := [], laidByText := true, laidKinds := [.data, .data, .data], laidTests := true, laidLooks := .later }
def RefutationTextUptoCardSaid : Prop := Claim7.holds Tryz.pinned (.plain (OpenSpec.upto refutationTextSpec)) refutationTextUptoCard
end Rows
end Go.Proofs.YtcakdidcpoolcaaGreatDoor
