/-
  DERIVED. GIVEN WITH THE SEED: THE CARDS: each row of YtpjkiomccpjboaaGreatDoorRows.lean that lists a variable, with what it lists TIED to the program's text (the seventh form; the later family's looks); each row that meets fmt, with fmt's text TOLD by the authors' own Lean function (tested against real Go, not proved from fmt's source: count such statements apart). THE CARD IS WHAT COUNTS. Prove the row's statement (the work); the ties are given (YtpjkiomccpjboaaGreatDoorTie.lean); close each card by the builder's one call (the guide's Derived/Test/ToyasCard.lean, 'card_holds'). Laid BY PROGRAM, IN A SANDBOX (cutbox-door.mjs). By AI agents, Wed Nov 11 2026. No macro, syntax, notation, axiom, sorry.
-/
import Derived.Test.YtpjkiomccpjboaaGreatDoorRows
import GoSem.ClaimSeven
namespace Go.Proofs.YtpjkiomccpjboaaGreatDoor
namespace Rows

/-- THE TIED CARD OF 'causewaylaw1.ValuesCheck'. -/
def valuesCheckCard : Claim7 := { stood := { row := valuesCheckRow, standIns := [], harness := (true, "a8f96baaa0aef160fa902ddd78bca854731d5d79aa6a46a5e2c94ebba506d4c4"), looks := true }, kinds := [], alts := [], laidByText := true, laidKinds := [.handle, .sentinel, .sentinel, .sentinel, .sentinel, .sentinel, .sentinel, .sentinel, .sentinel, .sentinel, .sentinel, .sentinel, .sentinel], laidTests := true, laidLooks := .later }
def ValuesCheckCardSaid : Prop := Claim7.holds Tryz.pinned (.plain (OpenSpec.ofChange valuesCheckSpec)) valuesCheckCard

/-- THE TIED CARD OF 'causewaylaw1.ValuesOf'. -/
def valuesOfCard : Claim7 := { stood := { row := valuesOfRow, standIns := [], harness := (true, "a8f96baaa0aef160fa902ddd78bca854731d5d79aa6a46a5e2c94ebba506d4c4"), looks := true }, kinds := [], alts := [], laidByText := true, laidKinds := [.handle, .sentinel, .sentinel, .sentinel, .sentinel, .sentinel, .sentinel, .sentinel, .sentinel, .sentinel, .sentinel, .sentinel, .sentinel], laidTests := true, laidLooks := .later }
def ValuesOfCardSaid : Prop := Claim7.holds Tryz.pinned (.plain (OpenSpec.ofChange valuesOfSpec)) valuesOfCard

/-- THE TIED CARD OF 'causewaylaw1.ValuesTurned'. -/
def valuesTurnedCard : Claim7 := { stood := { row := valuesTurnedRow, standIns := [], harness := (true, "a8f96baaa0aef160fa902ddd78bca854731d5d79aa6a46a5e2c94ebba506d4c4"), looks := true }, kinds := [], alts := [], laidByText := true, laidKinds := [.handle, .sentinel, .sentinel, .sentinel, .sentinel], laidTests := true, laidLooks := .later }
def ValuesTurnedCardSaid : Prop := Claim7.holds Tryz.pinned (.plain (OpenSpec.ofChange valuesTurnedSpec)) valuesTurnedCard

/-- THE TIED CARD OF 'causewaylaw1.ValuesAdds'. -/
def valuesAddsCard : Claim7 := { stood := { row := valuesAddsRow, standIns := [], harness := (true, "a8f96baaa0aef160fa902ddd78bca854731d5d79aa6a46a5e2c94ebba506d4c4"), looks := true }, kinds := [], alts := [], laidByText := true, laidKinds := [.handle, .sentinel, .sentinel, .sentinel, .sentinel], laidTests := true, laidLooks := .later }
def ValuesAddsCardSaid : Prop := Claim7.holds Tryz.pinned (.plain (OpenSpec.ofChange valuesAddsSpec)) valuesAddsCard

/-- THE TIED CARD OF 'causewaylaw1.ValuesSets'. -/
def valuesSetsCard : Claim7 := { stood := { row := valuesSetsRow, standIns := [], harness := (true, "a8f96baaa0aef160fa902ddd78bca854731d5d79aa6a46a5e2c94ebba506d4c4"), looks := true }, kinds := [], alts := [], laidByText := true, laidKinds := [.handle, .sentinel, .sentinel, .sentinel, .sentinel], laidTests := true, laidLooks := .later }
def ValuesSetsCardSaid : Prop := Claim7.holds Tryz.pinned (.plain (OpenSpec.ofChange valuesSetsSpec)) valuesSetsCard

/-- THE TIED CARD OF 'causewaylaw1.VersionsActs'. -/
def versionsActsCard : Claim7 := { stood := { row := versionsActsRow, standIns := [], harness := (true, "a8f96baaa0aef160fa902ddd78bca854731d5d79aa6a46a5e2c94ebba506d4c4"), looks := true }, kinds := [], alts := [], laidByText := true, laidKinds := [.handle, .sentinel, .sentinel, .sentinel, .sentinel, .sentinel, .sentinel, .sentinel, .sentinel, .sentinel, .sentinel, .sentinel, .sentinel], laidTests := true, laidLooks := .later }
def VersionsActsCardSaid : Prop := Claim7.holds Tryz.pinned (.plain (OpenSpec.ofChange versionsActsSpec)) versionsActsCard

/-- THE TIED CARD OF 'causewaylaw1.VersionsParts'. -/
def versionsPartsCard : Claim7 := { stood := { row := versionsPartsRow, standIns := [], harness := (true, "a8f96baaa0aef160fa902ddd78bca854731d5d79aa6a46a5e2c94ebba506d4c4"), looks := true }, kinds := [], alts := [], laidByText := true, laidKinds := [.handle, .sentinel, .sentinel, .sentinel, .sentinel, .sentinel, .sentinel], laidTests := true, laidLooks := .later }
def VersionsPartsCardSaid : Prop := Claim7.holds Tryz.pinned (.plain (OpenSpec.ofChange versionsPartsSpec)) versionsPartsCard

/-- THE TIED CARD OF 'causewaylaw1.VersionsPrunes'. -/
def versionsPrunesCard : Claim7 := { stood := { row := versionsPrunesRow, standIns := [], harness := (true, "a8f96baaa0aef160fa902ddd78bca854731d5d79aa6a46a5e2c94ebba506d4c4"), looks := true }, kinds := [], alts := [], laidByText := true, laidKinds := [.handle, .sentinel, .sentinel, .sentinel, .sentinel, .sentinel, .sentinel, .sentinel, .sentinel, .sentinel, .sentinel, .sentinel, .sentinel], laidTests := true, laidLooks := .later }
def VersionsPrunesCardSaid : Prop := Claim7.holds Tryz.pinned (.plain (OpenSpec.ofChange versionsPrunesSpec)) versionsPrunesCard

/-- THE SECOND FORM's CARD OF 'causewaylaw1.ValuesCheck'. -/
def valuesCheckUptoCard : Claim7 := { stood := { row := valuesCheckUptoRow, standIns := [], harness := (true, "a8f96baaa0aef160fa902ddd78bca854731d5d79aa6a46a5e2c94ebba506d4c4"), looks := true }, kinds := [], alts := [], laidByText := true, laidKinds := [.handle, .sentinel, .sentinel, .sentinel, .sentinel, .sentinel, .sentinel, .sentinel, .sentinel, .sentinel, .sentinel, .sentinel, .sentinel], laidTests := true, laidLooks := .later }
def ValuesCheckUptoCardSaid : Prop := Claim7.holds Tryz.pinned (.plain (OpenSpec.upto valuesCheckSpec)) valuesCheckUptoCard

/-- THE SECOND FORM's CARD OF 'causewaylaw1.ValuesOf'. -/
def valuesOfUptoCard : Claim7 := { stood := { row := valuesOfUptoRow, standIns := [], harness := (true, "a8f96baaa0aef160fa902ddd78bca854731d5d79aa6a46a5e2c94ebba506d4c4"), looks := true }, kinds := [], alts := [], laidByText := true, laidKinds := [.handle, .sentinel, .sentinel, .sentinel, .sentinel, .sentinel, .sentinel, .sentinel, .sentinel, .sentinel, .sentinel, .sentinel, .sentinel], laidTests := true, laidLooks := .later }
def ValuesOfUptoCardSaid : Prop := Claim7.holds Tryz.pinned (.plain (OpenSpec.upto valuesOfSpec)) valuesOfUptoCard

/-- THE SECOND FORM's CARD OF 'causewaylaw1.ValuesTurned'. -/
def valuesTurnedUptoCard : Claim7 := { stood := { row := valuesTurnedUptoRow, standIns := [], harness := (true, "a8f96baaa0aef160fa902ddd78bca854731d5d79aa6a46a5e2c94ebba506d4c4"), looks := true }, kinds := [], alts := [], laidByText := true, laidKinds := [.handle, .sentinel, .sentinel, .sentinel, .sentinel], laidTests := true, laidLooks := .later }
def ValuesTurnedUptoCardSaid : Prop := Claim7.holds Tryz.pinned (.plain (OpenSpec.upto valuesTurnedSpec)) valuesTurnedUptoCard

/-- THE SECOND FORM's CARD OF 'causewaylaw1.ValuesAdds'. -/
def valuesAddsUptoCard : Claim7 := { stood := { row := valuesAddsUptoRow, standIns := [], harness := (true, "a8f96baaa0aef160fa902ddd78bca854731d5d79aa6a46a5e2c94ebba506d4c4"), looks := true }, kinds := [], alts := [], laidByText := true, laidKinds := [.handle, .sentinel, .sentinel, .sentinel, .sentinel], laidTests := true, laidLooks := .later }
def ValuesAddsUptoCardSaid : Prop := Claim7.holds Tryz.pinned (.plain (OpenSpec.upto valuesAddsSpec)) valuesAddsUptoCard

/-- THE SECOND FORM's CARD OF 'causewaylaw1.ValuesSets'. -/
def valuesSetsUptoCard : Claim7 := { stood := { row := valuesSetsUptoRow, standIns := [], harness := (true, "a8f96baaa0aef160fa902ddd78bca854731d5d79aa6a46a5e2c94ebba506d4c4"), looks := true }, kinds := [], alts := [], laidByText := true, laidKinds := [.handle, .sentinel, .sentinel, .sentinel, .sentinel], laidTests := true, laidLooks := .later }
def ValuesSetsUptoCardSaid : Prop := Claim7.holds Tryz.pinned (.plain (OpenSpec.upto valuesSetsSpec)) valuesSetsUptoCard

/-- THE SECOND FORM's CARD OF 'causewaylaw1.VersionsActs'. -/
def versionsActsUptoCard : Claim7 := { stood := { row := versionsActsUptoRow, standIns := [], harness := (true, "a8f96baaa0aef160fa902ddd78bca854731d5d79aa6a46a5e2c94ebba506d4c4"), looks := true }, kinds := [], alts := [], laidByText := true, laidKinds := [.handle, .sentinel, .sentinel, .sentinel, .sentinel, .sentinel, .sentinel, .sentinel, .sentinel, .sentinel, .sentinel, .sentinel, .sentinel], laidTests := true, laidLooks := .later }
def VersionsActsUptoCardSaid : Prop := Claim7.holds Tryz.pinned (.plain (OpenSpec.upto versionsActsSpec)) versionsActsUptoCard

/-- THE SECOND FORM's CARD OF 'causewaylaw1.VersionsParts'. -/
def versionsPartsUptoCard : Claim7 := { stood := { row := versionsPartsUptoRow, standIns := [], harness := (true, "a8f96baaa0aef160fa902ddd78bca854731d5d79aa6a46a5e2c94ebba506d4c4"), looks := true }, kinds := [], alts := [], laidByText := true, laidKinds := [.handle, .sentinel, .sentinel, .sentinel, .sentinel, .sentinel, .sentinel], laidTests := true, laidLooks := .later }
def VersionsPartsUptoCardSaid : Prop := Claim7.holds Tryz.pinned (.plain (OpenSpec.upto versionsPartsSpec)) versionsPartsUptoCard

/-- THE SECOND FORM's CARD OF 'causewaylaw1.VersionsPrunes'. -/
def versionsPrunesUptoCard : Claim7 := { stood := { row := versionsPrunesUptoRow, standIns := [], harness := (true, "a8f96baaa0aef160fa902ddd78bca854731d5d79aa6a46a5e2c94ebba506d4c4"), looks := true }, kinds := [], alts := [], laidByText := true, laidKinds := [.handle, .sentinel, .sentinel, .sentinel, .sentinel, .sentinel, .sentinel, .sentinel, .sentinel, .sentinel, .sentinel, .sentinel, .sentinel], laidTests := true, laidLooks := .later }
def VersionsPrunesUptoCardSaid : Prop := Claim7.holds Tryz.pinned (.plain (OpenSpec.upto versionsPrunesSpec)) versionsPrunesUptoCard
end Rows
end Go.Proofs.YtpjkiomccpjboaaGreatDoor
