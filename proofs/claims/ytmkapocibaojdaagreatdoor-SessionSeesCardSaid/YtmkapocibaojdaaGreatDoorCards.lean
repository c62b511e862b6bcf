/-
  DERIVED. GIVEN WITH THE SEED: THE CARDS: each row of YtmkapocibaojdaaGreatDoorRows.lean that lists a variable, with what it lists TIED to the program's text (the seventh form; the later family's looks); each row that meets fmt, with fmt's text TOLD by the authors' own Lean function (tested against real Go, not proved from fmt's source: count such statements apart). THE CARD IS WHAT COUNTS. Prove the row's statement (the work); the ties are given (YtmkapocibaojdaaGreatDoorTie.lean); close each card by the builder's one call (the guide's Derived/Test/ToyasCard.lean, 'card_holds'). Laid BY PROGRAM, IN A SANDBOX (cutbox-door.mjs). By AI agents, Wed Nov 11 2026. No macro, syntax, notation, axiom, sorry.
-/
import Derived.Test.YtmkapocibaojdaaGreatDoorRows
import GoSem.ClaimSeven
namespace Go.Proofs.YtmkapocibaojdaaGreatDoor
namespace Rows

/-- THE TIED CARD OF 'causewaylaw2.PlaceActs'. -/
def placeActsCard : Claim7 := { stood := { row := placeActsRow, standIns := [], harness := (true, "c2c44ec70291a1f6a468a9b96f53460226fb85ddc02444508f885cbbd54b2e39"), looks := true }, kinds := [], alts := [], laidByText := true, laidKinds := [.handle, .sentinel, .sentinel, .sentinel, .sentinel, .sentinel, .sentinel, .sentinel, .sentinel, .sentinel, .sentinel, .sentinel, .sentinel], laidTests := true, laidLooks := .later }
def PlaceActsCardSaid : Prop := Claim7.holds Tryz.pinned (.plain (OpenSpec.ofChange placeActsSpec)) placeActsCard

/-- THE TIED CARD OF 'causewaylaw2.PlaceWhole'. -/
def placeWholeCard : Claim7 := { stood := { row := placeWholeRow, standIns := [], harness := (true, "c2c44ec70291a1f6a468a9b96f53460226fb85ddc02444508f885cbbd54b2e39"), looks := true }, kinds := [], alts := [], laidByText := true, laidKinds := [.handle, .sentinel, .sentinel, .sentinel, .sentinel, .sentinel, .sentinel, .sentinel, .sentinel], laidTests := true, laidLooks := .later }
def PlaceWholeCardSaid : Prop := Claim7.holds Tryz.pinned (.plain (OpenSpec.ofChange placeWholeSpec)) placeWholeCard

/-- THE TIED CARD OF 'causewaylaw2.PlaceCause'. -/
def placeCauseCard : Claim7 := { stood := { row := placeCauseRow, standIns := [], harness := (true, "c2c44ec70291a1f6a468a9b96f53460226fb85ddc02444508f885cbbd54b2e39"), looks := true }, kinds := [], alts := [], laidByText := true, laidKinds := [.handle, .sentinel, .sentinel, .sentinel, .sentinel, .sentinel, .sentinel, .sentinel, .sentinel], laidTests := true, laidLooks := .later }
def PlaceCauseCardSaid : Prop := Claim7.holds Tryz.pinned (.plain (OpenSpec.ofChange placeCauseSpec)) placeCauseCard

/-- THE TIED CARD OF 'causewaylaw2.PlaceTwo'. -/
def placeTwoCard : Claim7 := { stood := { row := placeTwoRow, standIns := [], harness := (true, "c2c44ec70291a1f6a468a9b96f53460226fb85ddc02444508f885cbbd54b2e39"), looks := true }, kinds := [], alts := [], laidByText := true, laidKinds := [.handle, .sentinel, .sentinel, .sentinel, .sentinel, .sentinel, .sentinel, .sentinel, .sentinel, .sentinel, .sentinel, .sentinel, .sentinel], laidTests := true, laidLooks := .later }
def PlaceTwoCardSaid : Prop := Claim7.holds Tryz.pinned (.plain (OpenSpec.ofChange placeTwoSpec)) placeTwoCard

/-- THE TIED CARD OF 'causewaylaw2.SessionKeeps'. -/
def sessionKeepsCard : Claim7 := { stood := { row := sessionKeepsRow, standIns := [], harness := (true, "c2c44ec70291a1f6a468a9b96f53460226fb85ddc02444508f885cbbd54b2e39"), looks := true }, kinds := [], alts := [], laidByText := true, laidKinds := [.handle, .sentinel, .sentinel, .sentinel, .sentinel, .sentinel, .sentinel, .sentinel, .sentinel, .sentinel, .sentinel, .sentinel, .sentinel], laidTests := true, laidLooks := .later }
def SessionKeepsCardSaid : Prop := Claim7.holds Tryz.pinned (.plain (OpenSpec.ofChange sessionKeepsSpec)) sessionKeepsCard

/-- THE TIED CARD OF 'causewaylaw2.SessionSees'. -/
def sessionSeesCard : Claim7 := { stood := { row := sessionSeesRow, standIns := [], harness := (true, "c2c44ec70291a1f6a468a9b96f53460226fb85ddc02444508f885cbbd54b2e39"), looks := true }, kinds := [], alts := [], laidByText := true, laidKinds := [.handle, .sentinel, .sentinel, .sentinel, .sentinel, .sentinel, .sentinel, .sentinel, .sentinel, .sentinel, .sentinel, .sentinel, .sentinel], laidTests := true, laidLooks := .later }
def SessionSeesCardSaid : Prop := Claim7.holds Tryz.pinned (.plain (OpenSpec.ofChange sessionSeesSpec)) sessionSeesCard

/-- THE TIED CARD OF 'causewaylaw2.SessionSteps'. -/
def sessionStepsCard : Claim7 := { stood := { row := sessionStepsRow, standIns := [], harness := (true, "c2c44ec70291a1f6a468a9b96f53460226fb85ddc02444508f885cbbd54b2e39"), looks := true }, kinds := [], alts := [], laidByText := true, laidKinds := [.handle, .sentinel, .sentinel, .sentinel, .sentinel, .sentinel, .sentinel, .sentinel, .sentinel, .sentinel, .sentinel, .sentinel, .sentinel], laidTests := true, laidLooks := .later }
def SessionStepsCardSaid : Prop := Claim7.holds Tryz.pinned (.plain (OpenSpec.ofChange sessionStepsSpec)) sessionStepsCard

/-- THE TIED CARD OF 'causewaylaw3.JudgeChecks'. -/
def judgeChecksCard : Claim7 := { stood := { row := judgeChecksRow, standIns := [], harness := (true, "c2c44ec70291a1f6a468a9b96f53460226fb85ddc02444508f885cbbd54b2e39"), looks := true }, kinds := [], alts := [], laidByText := true, laidKinds := [.handle, .sentinel, .sentinel, .sentinel, .sentinel, .sentinel, .sentinel, .sentinel, .sentinel, .sentinel, .sentinel, .sentinel, .sentinel], laidTests := true, laidLooks := .later }
def JudgeChecksCardSaid : Prop := Claim7.holds Tryz.pinned (.plain (OpenSpec.ofChange judgeChecksSpec)) judgeChecksCard

/-- THE SECOND FORM's CARD OF 'causewaylaw2.PlaceActs'. -/
def placeActsUptoCard : Claim7 := { stood := { row := placeActsUptoRow, standIns := [], harness := (true, "c2c44ec70291a1f6a468a9b96f53460226fb85ddc02444508f885cbbd54b2e39"), looks := true }, kinds := [], alts := [], laidByText := true, laidKinds := [.handle, .sentinel, .sentinel, .sentinel, .sentinel, .sentinel, .sentinel, .sentinel, .sentinel, .sentinel, .sentinel, .sentinel, .sentinel], laidTests := true, laidLooks := .later }
def PlaceActsUptoCardSaid : Prop := Claim7.holds Tryz.pinned (.plain (OpenSpec.upto placeActsSpec)) placeActsUptoCard

/-- THE SECOND FORM's CARD OF 'causewaylaw2.PlaceWhole'. -/
def placeWholeUptoCard : Claim7 := { stood := { row := placeWholeUptoRow, standIns := [], harness := (true, "c2c44ec70291a1f6a468a9b96f53460226fb85ddc02444508f885cbbd54b2e39"), looks := true }, kinds := [], alts := [], laidByText := true, laidKinds := [.handle, .sentinel, .sentinel, .sentinel, .sentinel, .sentinel, .sentinel, .sentinel, .sentinel], laidTests := true, laidLooks := .later }
def PlaceWholeUptoCardSaid : Prop := Claim7.holds Tryz.pinned (.plain (OpenSpec.upto placeWholeSpec)) placeWholeUptoCard

/-- THE SECOND FORM's CARD OF 'causewaylaw2.PlaceCause'. -/
def placeCauseUptoCard : Claim7 := { stood := { row := placeCauseUptoRow, standIns := [], harness := (true, "c2c44ec70291a1f6a468a9b96f53460226fb85ddc02444508f885cbbd54b2e39"), looks := true }, kinds := [], alts := [], laidByText := true, laidKinds := [.handle, .sentinel, .sentinel, .sentinel, .sentinel, .sentinel, .sentinel, .sentinel, .sentinel], laidTests := true, laidLooks := .later }
def PlaceCauseUptoCardSaid : Prop := Claim7.holds Tryz.pinned (.plain (OpenSpec.upto placeCauseSpec)) placeCauseUptoCard

/-- THE SECOND FORM's CARD OF 'causewaylaw2.PlaceTwo'. -/
def placeTwoUptoCard : Claim7 := { stood := { row := placeTwoUptoRow, standIns := [], harness := (true, "c2c44ec70291a1f6a468a9b96f53460226fb85ddc02444508f885cbbd54b2e39"), looks := true }, kinds := [], alts := [], laidByText := true, laidKinds := [.handle, .sentinel, .sentinel, .sentinel, .sentinel, .sentinel, .sentinel, .sentinel, .sentinel, .sentinel, .sentinel, .sentinel, .sentinel], laidTests := true, laidLooks := .later }
def PlaceTwoUptoCardSaid : Prop := Claim7.holds Tryz.pinned (.plain (OpenSpec.upto placeTwoSpec)) placeTwoUptoCard

/-- THE SECOND FORM's CARD OF 'causewaylaw2.SessionKeeps'. -/
def sessionKeepsUptoCard : Claim7 := { stood := { row := sessionKeepsUptoRow, standIns := [], harness := (true, "c2c44ec70291a1f6a468a9b96f53460226fb85ddc02444508f885cbbd54b2e39"), looks := true }, kinds := [], alts := [], laidByText := true, laidKinds := [.handle, .sentinel, .sentinel, .sentinel, .sentinel, .sentinel, .sentinel, .sentinel, .sentinel, .sentinel, .sentinel, .sentinel, .sentinel], laidTests := true, laidLooks := .later }
def SessionKeepsUptoCardSaid : Prop := Claim7.holds Tryz.pinned (.plain (OpenSpec.upto sessionKeepsSpec)) sessionKeepsUptoCard

/-- THE SECOND FORM's CARD OF 'causewaylaw2.SessionSees'. -/
def sessionSeesUptoCard : Claim7 := { stood := { row := sessionSeesUptoRow, standIns := [], harness := (true, "c2c44ec70291a1f6a468a9b96f53460226fb85ddc02444508f885cbbd54b2e39"), looks := true }, kinds := [], alts := [], laidByText := true, laidKinds := [.handle, .sentinel, .sentinel, .sentinel, .sentinel, .sentinel, .sentinel, .sentinel, .sentinel, .sentinel, .sentinel, .sentinel, .sentinel], laidTests := true, laidLooks := .later }
def SessionSeesUptoCardSaid : Prop := Claim7.holds Tryz.pinned (.plain (OpenSpec.upto sessionSeesSpec)) sessionSeesUptoCard

/-- THE SECOND FORM's CARD OF 'causewaylaw2.SessionSteps'. -/
def sessionStepsUptoCard : Claim7 := { stood := { row := sessionStepsUptoRow, standIns := [], harness := (true, "c2c44ec70291a1f6a468a9b96f53460226fb85ddc02444508f885cbbd54b2e39"), looks := true }, kinds := [], alts := [], laidByText := true, laidKinds := [.handle, .sentinel, .sentinel, .sentinel, .sentinel, .sentinel, .sentinel, .sentinel, .sentinel, .sentinel, .sentinel, .sentinel, .sentinel], laidTests := true, laidLooks := .later }
def SessionStepsUptoCardSaid : Prop := Claim7.holds Tryz.pinned (.plain (OpenSpec.upto sessionStepsSpec)) sessionStepsUptoCard

/-- THE SECOND FORM's CARD OF 'causewaylaw3.JudgeChecks'. -/
def judgeChecksUptoCard : Claim7 := { stood := { row := judgeChecksUptoRow, standIns := [], harness := (true, "c2c44ec70291a1f6a468a9b96f53460226fb85ddc02444508f885cbbd54b2e39"), looks := true }, kinds := [], alts := [], laidByText := true, laidKinds := [.handle, .sentinel, .sentinel, .sentinel, .sentinel, .sentinel, .sentinel, .sentinel, .sentinel, .sentinel, .sentinel, .sentinel, .sentinel], laidTests := true, laidLooks := .later }
def JudgeChecksUptoCardSaid : Prop := Claim7.holds Tryz.pinned (.plain (OpenSpec.upto judgeChecksSpec)) judgeChecksUptoCard
end Rows
end Go.Proofs.YtmkapocibaojdaaGreatDoor
