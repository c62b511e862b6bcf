/-
  DERIVED. GIVEN WITH THE SEED: THE CARDS: each row of YtehdegekgdlifaaDoorRows.lean that lists a variable, with what it lists TIED to the program's text (the seventh form; the later family's looks); each row that meets fmt, with fmt's text TOLD by the authors' own Lean function (tested against real Go, not proved from fmt's source: count such statements apart). THE CARD IS WHAT COUNTS. Prove the row's statement (the work); the ties are given (YtehdegekgdlifaaDoorTie.lean); close each card by the builder's one call (the guide's Derived/Test/ToyasCard.lean, 'card_holds'). Laid BY PROGRAM, IN A SANDBOX (cutbox-door.mjs). By AI agents, Wed Nov 11 2026. No macro, syntax, notation, axiom, sorry.
-/
import Derived.Test.YtehdegekgdlifaaDoorRows
import GoSem.ClaimSeven
namespace Go.Proofs.YtehdegekgdlifaaDoor
namespace Rows

/-- THE TIED CARD OF 'causewaylaw2.PlaceShards'. -/
def placeShardsCard : Claim7 := { stood := { row := placeShardsRow, standIns := [], harness := (true, "695c8d899c723b31d5c2048cef8a2ae0aeb7fd410188ce71c7794a676e34ee2b"), looks := true }, kinds := [], alts := [], laidByText := true, laidKinds := [.handle, .sentinel, .sentinel, .sentinel, .sentinel, .sentinel, .sentinel, .sentinel, .sentinel, .sentinel, .sentinel, .sentinel, .sentinel], laidTests := true, laidLooks := .later }
def PlaceShardsCardSaid : Prop := Claim7.holds Tryd.pinned (.plain (OpenSpec.ofChange placeShardsSpec)) placeShardsCard

/-- THE SECOND FORM's CARD OF 'causewaylaw2.PlaceShards'. -/
def placeShardsUptoCard : Claim7 := { stood := { row := placeShardsUptoRow, standIns := [], harness := (true, "695c8d899c723b31d5c2048cef8a2ae0aeb7fd410188ce71c7794a676e34ee2b"), looks := true }, kinds := [], alts := [], laidByText := true, laidKinds := [.handle, .sentinel, .sentinel, .sentinel, .sentinel, .sentinel, .sentinel, .sentinel, .sentinel, .sentinel, .sentinel, .sentinel, .sentinel], laidTests := true, laidLooks := .later }
def PlaceShardsUptoCardSaid : Prop := Claim7.holds Tryd.pinned (.plain (OpenSpec.upto placeShardsSpec)) placeShardsUptoCard
end Rows
end Go.Proofs.YtehdegekgdlifaaDoor
