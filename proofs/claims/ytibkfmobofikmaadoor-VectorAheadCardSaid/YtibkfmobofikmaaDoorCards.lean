/-
  DERIVED. GIVEN WITH THE SEED: THE CARDS: each row of YtibkfmobofikmaaDoorRows.lean that lists a variable, with what it lists TIED to the program's text (the seventh form; the later family's looks); each row that meets fmt, with fmt's text TOLD by the authors' own Lean function (tested against real Go, not proved from fmt's source: count such statements apart). THE CARD IS WHAT COUNTS. Prove the row's statement (the work); the ties are given (YtibkfmobofikmaaDoorTie.lean); close each card by the builder's one call (the guide's Derived/Test/ToyasCard.lean, 'card_holds'). Laid BY PROGRAM, IN A SANDBOX (cutbox-door.mjs). By AI agents, Wed Nov 11 2026. No macro, syntax, notation, axiom, sorry.
-/
import Derived.Test.YtibkfmobofikmaaDoorRows
import GoSem.ClaimSeven
namespace Go.Proofs.YtibkfmobofikmaaDoor
namespace Rows

/-- THE TIED CARD OF 'causewaylaw1.VectorLaws'. -/
def vectorLawsCard : Claim7 := { stood := { row := vectorLawsRow, standIns := [], harness := (true, "d9071c92d287235a3f7fef94e33eb1a126c860e2fa12ada15e9f9cdefcad3af5"), looks := true }, kinds := [], alts := [], laidByText := true, laidKinds := [.data, .data, .data, .sentinel, .sentinel], laidTests := true, laidLooks := .later }
def VectorLawsCardSaid : Prop := Claim7.holds Tryd.pinned (.plain (OpenSpec.ofChange vectorLawsSpec)) vectorLawsCard

/-- THE TIED CARD OF 'causewaylaw1.VectorWeighs'. -/
def vectorWeighsCard : Claim7 := { stood := { row := vectorWeighsRow, standIns := [], harness := (true, "d9071c92d287235a3f7fef94e33eb1a126c860e2fa12ada15e9f9cdefcad3af5"), looks := true }, kinds := [], alts := [], laidByText := true, laidKinds := [.data, .data, .data, .sentinel, .sentinel], laidTests := true, laidLooks := .later }
def VectorWeighsCardSaid : Prop := Claim7.holds Tryd.pinned (.plain (OpenSpec.ofChange vectorWeighsSpec)) vectorWeighsCard

/-- THE TIED CARD OF 'causewaylaw1.VectorTwo'. -/
def vectorTwoCard : Claim7 := { stood := { row := vectorTwoRow, standIns := [], harness := (true, "d9071c92d287235a3f7fef94e33eb1a126c860e2fa12ada15e9f9cdefcad3af5"), looks := true }, kinds := [], alts := [], laidByText := true, laidKinds := [.data, .data, .data, .handle, .sentinel, .sentinel, .sentinel, .sentinel, .sentinel, .sentinel, .sentinel, .sentinel, .sentinel, .sentinel, .sentinel, .sentinel], laidTests := true, laidLooks := .later }
def VectorTwoCardSaid : Prop := Claim7.holds Tryd.pinned (.plain (OpenSpec.ofChange vectorTwoSpec)) vectorTwoCard

/-- THE TIED CARD OF 'causewaylaw1.VectorAhead'. -/
def vectorAheadCard : Claim7 := { stood := { row := vectorAheadRow, standIns := [], harness := (true, "d9071c92d287235a3f7fef94e33eb1a126c860e2fa12ada15e9f9cdefcad3af5"), looks := true }, kinds := [], alts := [], laidByText := true, laidKinds := [.data, .data, .data, .handle, .sentinel, .sentinel, .sentinel, .sentinel, .sentinel, .sentinel, .sentinel, .sentinel, .sentinel, .sentinel, .sentinel, .sentinel], laidTests := true, laidLooks := .later }
def VectorAheadCardSaid : Prop := Claim7.holds Tryd.pinned (.plain (OpenSpec.ofChange vectorAheadSpec)) vectorAheadCard

/-- THE TIED CARD OF 'causewaylaw1.VectorTexts'. -/
def vectorTextsCard : Claim7 := { stood := { row := vectorTextsRow, standIns := [], harness := (true, "d9071c92d287235a3f7fef94e33eb1a126c860e2fa12ada15e9f9cdefcad3af5"), looks := true }, kinds := [], alts := [], laidByText := true, laidKinds := [.data, .data, .data, .data, .handle, .sentinel, .sentinel, .sentinel, .sentinel, .sentinel, .sentinel, .sentinel, .sentinel, .sentinel, .sentinel, .sentinel, .sentinel, .sentinel, .sentinel, .pinned], laidTests := true, laidLooks := .later }
def VectorTextsCardSaid : Prop := Claim7.holds Tryd.pinned (.plain (OpenSpec.ofChange vectorTextsSpec)) vectorTextsCard

/-- THE TIED CARD OF 'causewaylaw1.Names'. -/
def namesCard : Claim7 := { stood := { row := namesRow, standIns := [], harness := (true, "d9071c92d287235a3f7fef94e33eb1a126c860e2fa12ada15e9f9cdefcad3af5"), looks := true }, kinds := [], alts := [], laidByText := true, laidKinds := [.handle, .sentinel, .sentinel, .sentinel, .sentinel, .sentinel, .sentinel, .sentinel, .sentinel, .sentinel, .sentinel, .sentinel, .sentinel], laidTests := true, laidLooks := .later }
def NamesCardSaid : Prop := Claim7.holds Tryd.pinned (.plain (OpenSpec.ofChange namesSpec)) namesCard

/-- THE TIED CARD OF 'causewaylaw1.WireCodes'. -/
def wireCodesCard : Claim7 := { stood := { row := wireCodesRow, standIns := [], harness := (true, "d9071c92d287235a3f7fef94e33eb1a126c860e2fa12ada15e9f9cdefcad3af5"), looks := true }, kinds := [], alts := [], laidByText := true, laidKinds := [.handle, .sentinel, .sentinel, .sentinel, .sentinel, .sentinel, .sentinel, .sentinel, .sentinel, .sentinel, .sentinel, .sentinel, .sentinel], laidTests := true, laidLooks := .later }
def WireCodesCardSaid : Prop := Claim7.holds Tryd.pinned (.plain (OpenSpec.ofChange wireCodesSpec)) wireCodesCard

/-- THE TIED CARD OF 'causewaylaw1.WireReads'. -/
def wireReadsCard : Claim7 := { stood := { row := wireReadsRow, standIns := [], harness := (true, "d9071c92d287235a3f7fef94e33eb1a126c860e2fa12ada15e9f9cdefcad3af5"), looks := true }, kinds := [], alts := [], laidByText := true, laidKinds := [.handle, .sentinel, .sentinel, .sentinel, .sentinel, .sentinel, .sentinel, .sentinel, .sentinel, .sentinel, .sentinel, .sentinel, .sentinel], laidTests := true, laidLooks := .later }
def WireReadsCardSaid : Prop := Claim7.holds Tryd.pinned (.plain (OpenSpec.ofChange wireReadsSpec)) wireReadsCard

/-- THE SECOND FORM's CARD OF 'causewaylaw1.VectorLaws'. -/
def vectorLawsUptoCard : Claim7 := { stood := { row := vectorLawsUptoRow, standIns := [], harness := (true, "d9071c92d287235a3f7fef94e33eb1a126c860e2fa12ada15e9f9cdefcad3af5"), looks := true }, kinds := [], alts := [], laidByText := true, laidKinds := [.data, .data, .data, .sentinel, .sentinel], laidTests := true, laidLooks := .later }
def VectorLawsUptoCardSaid : Prop := Claim7.holds Tryd.pinned (.plain (OpenSpec.upto vectorLawsSpec)) vectorLawsUptoCard

/-- THE SECOND FORM's CARD OF 'causewaylaw1.VectorWeighs'. -/
def vectorWeighsUptoCard : Claim7 := { stood := { row := vectorWeighsUptoRow, standIns := [], harness := (true, "d9071c92d287235a3f7fef94e33eb1a126c860e2fa12ada15e9f9cdefcad3af5"), looks := true }, kinds := [], alts := [], laidByText := true, laidKinds := [.data, .data, .data, .sentinel, .sentinel], laidTests := true, laidLooks := .later }
def VectorWeighsUptoCardSaid : Prop := Claim7.holds Tryd.pinned (.plain (OpenSpec.upto vectorWeighsSpec)) vectorWeighsUptoCard

/-- THE SECOND FORM's CARD OF 'causewaylaw1.VectorTwo'. -/
def vectorTwoUptoCard : Claim7 := { stood := { row := vectorTwoUptoRow, standIns := [], harness := (true, "d9071c92d287235a3f7fef94e33eb1a126c860e2fa12ada15e9f9cdefcad3af5"), looks := true }, kinds := [], alts := [], laidByText := true, laidKinds := [.data, .data, .data, .handle, .sentinel, .sentinel, .sentinel, .sentinel, .sentinel, .sentinel, .sentinel, .sentinel, .sentinel, .sentinel, .sentinel, .sentinel], laidTests := true, laidLooks := .later }
def VectorTwoUptoCardSaid : Prop := Claim7.holds Tryd.pinned (.plain (OpenSpec.upto vectorTwoSpec)) vectorTwoUptoCard

/-- THE SECOND FORM's CARD OF 'causewaylaw1.VectorAhead'. -/
def vectorAheadUptoCard : Claim7 := { stood := { row := vectorAheadUptoRow, standIns := [], harness := (true, "d9071c92d287235a3f7fef94e33eb1a126c860e2fa12ada15e9f9cdefcad3af5"), looks := true }, kinds := [], alts := [], laidByText := true, laidKinds := [.data, .data, .data, .handle, .sentinel, .sentinel, .sentinel, .sentinel, .sentinel, .sentinel, .sentinel, .sentinel, .sentinel, .sentinel, .sentinel, .sentinel], laidTests := true, laidLooks := .later }
def VectorAheadUptoCardSaid : Prop := Claim7.holds Tryd.pinned (.plain (OpenSpec.upto vectorAheadSpec)) vectorAheadUptoCard

/-- THE SECOND FORM's CARD OF 'causewaylaw1.VectorTexts'. -/
def vectorTextsUptoCard : Claim7 := { stood := { row := vectorTextsUptoRow, standIns := [], harness := (true, "d9071c92d287235a3f7fef94e33eb1a126c860e2fa12ada15e9f9cdefcad3af5"), looks := true }, kinds := [], alts := [], laidByText := true, laidKinds := [.data, .data, .data, .data, .handle, .sentinel, .sentinel, .sentinel, .sentinel, .sentinel, .sentinel, .sentinel, .sentinel, .sentinel, .sentinel, .sentinel, .sentinel, .sentinel, .sentinel, .pinned], laidTests := true, laidLooks := .later }
def VectorTextsUptoCardSaid : Prop := Claim7.holds Tryd.pinned (.plain (OpenSpec.upto vectorTextsSpec)) vectorTextsUptoCard

/-- THE SECOND FORM's CARD OF 'causewaylaw1.Names'. -/
def namesUptoCard : Claim7 := { stood := { row := namesUptoRow, standIns := [], harness := (true, "d9071c92d287235a3f7fef94e33eb1a126c860e2fa12ada15e9f9cdefcad3af5"), looks := true }, kinds := [], alts := [], laidByText := true, laidKinds := [.handle, .sentinel, .sentinel, .sentinel, .sentinel, .sentinel, .sentinel, .sentinel, .sentinel, .sentinel, .sentinel, .sentinel, .sentinel], laidTests := true, laidLooks := .later }
def NamesUptoCardSaid : Prop := Claim7.holds Tryd.pinned (.plain (OpenSpec.upto namesSpec)) namesUptoCard

/-- THE SECOND FORM's CARD OF 'causewaylaw1.WireCodes'. -/
def wireCodesUptoCard : Claim7 := { stood := { row := wireCodesUptoRow, standIns := [], harness := (true, "d9071c92d287235a3f7fef94e33eb1a126c860e2fa12ada15e9f9cdefcad3af5"), looks := true }, kinds := [], alts := [], laidByText := true, laidKinds := [.handle, .sentinel, .sentinel, .sentinel, .sentinel, .sentinel, .sentinel, .sentinel, .sentinel, .sentinel, .sentinel, .sentinel, .sentinel], laidTests := true, laidLooks := .later }
def WireCodesUptoCardSaid : Prop := Claim7.holds Tryd.pinned (.plain (OpenSpec.upto wireCodesSpec)) wireCodesUptoCard

/-- THE SECOND FORM's CARD OF 'causewaylaw1.WireReads'. -/
def wireReadsUptoCard : Claim7 := { stood := { row := wireReadsUptoRow, standIns := [], harness := (true, "d9071c92d287235a3f7fef94e33eb1a126c860e2fa12ada15e9f9cdefcad3af5"), looks := true }, kinds := [], alts := [], laidByText := true, laidKinds := [.handle, .sentinel, .sentinel, .sentinel, .sentinel, .sentinel, .sentinel, .sentinel, .sentinel, .sentinel, .sentinel, .sentinel, .sentinel], laidTests := true, laidLooks := .later }
def WireReadsUptoCardSaid : Prop := Claim7.holds Tryd.pinned (.plain (OpenSpec.upto wireReadsSpec)) wireReadsUptoCard
end Rows
end Go.Proofs.YtibkfmobofikmaaDoor
