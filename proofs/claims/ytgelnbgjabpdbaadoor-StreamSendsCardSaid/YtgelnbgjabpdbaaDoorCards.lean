/-
  DERIVED. GIVEN WITH THE SEED: THE CARDS: each row of YtgelnbgjabpdbaaDoorRows.lean that lists a variable, with what it lists TIED to the program's text (the seventh form; the later family's looks); each row that meets fmt, with fmt's text TOLD by the authors' own Lean function (tested against real Go, not proved from fmt's source: count such statements apart). THE CARD IS WHAT COUNTS. Prove the row's statement (the work); the ties are given (YtgelnbgjabpdbaaDoorTie.lean); close each card by the builder's one call (the guide's Derived/Test/ToyasCard.lean, 'card_holds'). Laid BY PROGRAM, IN A SANDBOX (cutbox-door.mjs). By AI agents, Wed Nov 11 2026. No macro, syntax, notation, axiom, sorry.
-/
import Derived.Test.YtgelnbgjabpdbaaDoorRows
import GoSem.ClaimSeven
namespace Go.Proofs.YtgelnbgjabpdbaaDoor
namespace Rows

/-- THE TIED CARD OF 'causewaylaw2.StreamComes'. -/
def streamComesCard : Claim7 := { stood := { row := streamComesRow, standIns := [], harness := (true, "7aa2e3b4916d68671f50156da623c20eb1c448468f52aea26e486e63881b56b0"), looks := true }, kinds := [], alts := [], laidByText := true, laidKinds := [.sentinel, .sentinel, .sentinel, .sentinel], laidTests := true, laidLooks := .later }
def StreamComesCardSaid : Prop := Claim7.holds Tryd.pinned (.plain (OpenSpec.ofChange streamComesSpec)) streamComesCard

/-- THE TIED CARD OF 'causewaylaw2.StreamLossy'. -/
def streamLossyCard : Claim7 := { stood := { row := streamLossyRow, standIns := [], harness := (true, "7aa2e3b4916d68671f50156da623c20eb1c448468f52aea26e486e63881b56b0"), looks := true }, kinds := [], alts := [], laidByText := true, laidKinds := [.sentinel, .sentinel, .sentinel, .sentinel], laidTests := true, laidLooks := .later }
def StreamLossyCardSaid : Prop := Claim7.holds Tryd.pinned (.plain (OpenSpec.ofChange streamLossySpec)) streamLossyCard

/-- THE TIED CARD OF 'causewaylaw2.StreamHears'. -/
def streamHearsCard : Claim7 := { stood := { row := streamHearsRow, standIns := [], harness := (true, "7aa2e3b4916d68671f50156da623c20eb1c448468f52aea26e486e63881b56b0"), looks := true }, kinds := [], alts := [], laidByText := true, laidKinds := [.handle, .sentinel, .sentinel, .sentinel, .sentinel, .sentinel, .sentinel, .sentinel, .sentinel, .sentinel, .sentinel, .sentinel, .sentinel], laidTests := true, laidLooks := .later }
def StreamHearsCardSaid : Prop := Claim7.holds Tryd.pinned (.plain (OpenSpec.ofChange streamHearsSpec)) streamHearsCard

/-- THE TIED CARD OF 'causewaylaw2.StreamSends'. -/
def streamSendsCard : Claim7 := { stood := { row := streamSendsRow, standIns := [], harness := (true, "7aa2e3b4916d68671f50156da623c20eb1c448468f52aea26e486e63881b56b0"), looks := true }, kinds := [], alts := [], laidByText := true, laidKinds := [.handle, .sentinel, .sentinel, .sentinel, .sentinel, .sentinel, .sentinel, .sentinel, .sentinel, .sentinel, .sentinel, .sentinel, .sentinel], laidTests := true, laidLooks := .later }
def StreamSendsCardSaid : Prop := Claim7.holds Tryd.pinned (.plain (OpenSpec.ofChange streamSendsSpec)) streamSendsCard

/-- THE SECOND FORM's CARD OF 'causewaylaw2.StreamComes'. -/
def streamComesUptoCard : Claim7 := { stood := { row := streamComesUptoRow, standIns := [], harness := (true, "7aa2e3b4916d68671f50156da623c20eb1c448468f52aea26e486e63881b56b0"), looks := true }, kinds := [], alts := [], laidByText := true, laidKinds := [.sentinel, .sentinel, .sentinel, .sentinel], laidTests := true, laidLooks := .later }
def StreamComesUptoCardSaid : Prop := Claim7.holds Tryd.pinned (.plain (OpenSpec.upto streamComesSpec)) streamComesUptoCard

/-- THE SECOND FORM's CARD OF 'causewaylaw2.StreamLossy'. -/
def streamLossyUptoCard : Claim7 := { stood := { row := streamLossyUptoRow, standIns := [], harness := (true, "7aa2e3b4916d68671f50156da623c20eb1c448468f52aea26e486e63881b56b0"), looks := true }, kinds := [], alts := [], laidByText := true, laidKinds := [.sentinel, .sentinel, .sentinel, .sentinel], laidTests := true, laidLooks := .later }
def StreamLossyUptoCardSaid : Prop := Claim7.holds Tryd.pinned (.plain (OpenSpec.upto streamLossySpec)) streamLossyUptoCard

/-- THE SECOND FORM's CARD OF 'causewaylaw2.StreamHears'. -/
def streamHearsUptoCard : Claim7 := { stood := { row := streamHearsUptoRow, standIns := [], harness := (true, "7aa2e3b4916d68671f50156da623c20eb1c448468f52aea26e486e63881b56b0"), looks := true }, kinds := [], alts := [], laidByText := true, laidKinds := [.handle, .sentinel, .sentinel, .sentinel, .sentinel, .sentinel, .sentinel, .sentinel, .sentinel, .sentinel, .sentinel, .sentinel, .sentinel], laidTests := true, laidLooks := .later }
def StreamHearsUptoCardSaid : Prop := Claim7.holds Tryd.pinned (.plain (OpenSpec.upto streamHearsSpec)) streamHearsUptoCard

/-- THE SECOND FORM's CARD OF 'causewaylaw2.StreamSends'. -/
def streamSendsUptoCard : Claim7 := { stood := { row := streamSendsUptoRow, standIns := [], harness := (true, "7aa2e3b4916d68671f50156da623c20eb1c448468f52aea26e486e63881b56b0"), looks := true }, kinds := [], alts := [], laidByText := true, laidKinds := [.handle, .sentinel, .sentinel, .sentinel, .sentinel, .sentinel, .sentinel, .sentinel, .sentinel, .sentinel, .sentinel, .sentinel, .sentinel], laidTests := true, laidLooks := .later }
def StreamSendsUptoCardSaid : Prop := Claim7.holds Tryd.pinned (.plain (OpenSpec.upto streamSendsSpec)) streamSendsUptoCard
end Rows
end Go.Proofs.YtgelnbgjabpdbaaDoor
