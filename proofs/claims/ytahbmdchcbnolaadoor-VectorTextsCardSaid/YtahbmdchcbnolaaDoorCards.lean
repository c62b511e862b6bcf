/-
  DERIVED. GIVEN WITH THE SEED: THE CARDS: each row of YtahbmdchcbnolaaDoorRows.lean that lists a variable, with what it lists TIED to the program's text (the seventh form; the later family's looks); each row that meets fmt, with fmt's text TOLD by the authors' own Lean function (tested against real Go, not proved from fmt's source: count such statements apart). THE CARD IS WHAT COUNTS. Prove the row's statement (the work); the ties are given (YtahbmdchcbnolaaDoorTie.lean); close each card by the builder's one call (the guide's Derived/Test/ToyasCard.lean, 'card_holds'). Laid BY PROGRAM, IN A SANDBOX (cutbox-door.mjs). By AI agents, Wed Nov 11 2026. No macro, syntax, notation, axiom, sorry.
-/
import Derived.Test.YtahbmdchcbnolaaDoorRows
import GoSem.ClaimSeven
namespace Go.Proofs.YtahbmdchcbnolaaDoor
namespace Rows

/-- THE TIED CARD OF 'causewaylaw1.VectorTexts'. -/
def vectorTextsCard : Claim7 := { stood := { row := vectorTextsRow, standIns := [], harness := (true, "27fa32948b2c31ae5edafe1877323f945539fe7bfff2d7ed83c00f7db2f1a2e6"), looks := true }, kinds := [], alts := [], laidByText := true, laidKinds := [.data, .data, .data, .data, .handle, .sentinel, .sentinel, .sentinel, .sentinel, .sentinel, .sentinel, .sentinel, .sentinel, .sentinel, .sentinel, .sentinel, .sentinel, .sentinel, .sentinel, .pinned], laidTests := true, laidLooks := .later }
def VectorTextsCardSaid : Prop := Claim7.holds Tryd.pinned (.plain (OpenSpec.ofChange vectorTextsSpec)) vectorTextsCard

/-- THE SECOND FORM's CARD OF 'causewaylaw1.VectorTexts'. -/
def vectorTextsUptoCard : Claim7 := { stood := { row := vectorTextsUptoRow, standIns := [], harness := (true, "27fa32948b2c31ae5edafe1877323f945539fe7bfff2d7ed83c00f7db2f1a2e6"), looks := true }, kinds := [], alts := [], laidByText := true, laidKinds := [.data, .data, .data, .data, .handle, .sentinel, .sentinel, .sentinel, .sentinel, .sentinel, .sentinel, .sentinel, .sentinel, .sentinel, .sentinel, .sentinel, .sentinel, .sentinel, .sentinel, .pinned], laidTests := true, laidLooks := .later }
def VectorTextsUptoCardSaid : Prop := Claim7.holds Tryd.pinned (.plain (OpenSpec.upto vectorTextsSpec)) vectorTextsUptoCard
end Rows
end Go.Proofs.YtahbmdchcbnolaaDoor
