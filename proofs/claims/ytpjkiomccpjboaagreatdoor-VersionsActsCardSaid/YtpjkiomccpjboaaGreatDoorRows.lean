/-
  NARROWER THAN 'FOR EVERY INPUT', by the rows' own cells (each row's printed sentence says how): ValuesCheck: laid · ValuesOf: laid · ValuesTurned: laid · ValuesAdds: laid · ValuesSets: laid · VersionsActs: laid · VersionsParts: laid · VersionsPrunes: laid.
  DERIVED. THE GIVEN ROWS OF THIS SEAT. 8 by the template 'for every input the law returns true; each argument reads behind the call as it read before'; 0 by the template 'total and deterministic' (their statements: YtpjkiomccpjboaaGreatDoorTotals.lean).
  GIVEN WITH THE SEED: the statements are not yours to turn. If you find one false, say at which input.
  Laid BY PROGRAM, IN A SANDBOX (cutbox-rows.mjs): the forced cells as the released guide's own fill.sh prints them over the translation eb2cbe1bab06c3a0… (all of the seat's roots in one cut). By AI agents, Wed Nov 11 2026. No macro, syntax, notation, axiom, sorry.
-/
import Derived.Test.YtpjkiomccpjboaaGreatDoorChecked
import GoSem.Claim
import GoSem.ClaimJoined
import GoSem.ClaimMapViews
import Derived.JoinedTies
import Derived.KernelRfl
namespace Go.Proofs.YtpjkiomccpjboaaGreatDoor
/- THE CELL 'sum', in the pinned program and in every row, IS THE sha256 OF THE DUMP (.gsa) THAT YtpjkiomccpjboaaGreatDoorProg.lean LOADS. Nothing in Lean hashes anything: it is a label: what it is worth is what the hold of that sum in a sandbox is worth. -/
noncomputable def Tryz.pinned : Pinned := { name := "ytpjkiomccpjboaagreatdoor", sum := "eb2cbe1bab06c3a0ea056a35f9e76da3aa3db5527f7f3da1d530a592f42ee928", checked := Tryz.checked }
namespace Rows
def none {H : Type} : Left H := { results := [], args := [] }

/- WHAT THE LISTED PACKAGE-LEVEL VARIABLES READ AS WHEN THE CALL BEGINS. Each datum BY PROGRAM (the guide's laid-datum.mjs) off the statement by which the dump's own 'gosem.cut.vars' lays the variable. In a bare row this is a premise. The card (YtpjkiomccpjboaaGreatDoorCards.lean) ties it to the program's text. -/
def laid_errors_errorType {H : Type} : DataW H := .iface "internal/reflectlite.rtype" (.agg [.ptr (.lit (.string [101, 114, 114, 111, 114]))])
def laid_causeway_api_ErrText {H : Type} : DataW H := .iface "*errors.errorString" (.ptr (.agg [.lit (.string [99, 97, 117, 115, 101, 119, 97, 121, 58, 32, 116, 101, 120, 116])]))
def laid_causeway_api_ErrBound {H : Type} : DataW H := .iface "*errors.errorString" (.ptr (.agg [.lit (.string [99, 97, 117, 115, 101, 119, 97, 121, 58, 32, 98, 111, 117, 110, 100])]))
def laid_causeway_api_ErrShape {H : Type} : DataW H := .iface "*errors.errorString" (.ptr (.agg [.lit (.string [99, 97, 117, 115, 101, 119, 97, 121, 58, 32, 115, 104, 97, 112, 101])]))
def laid_causeway_api_ErrName {H : Type} : DataW H := .iface "*errors.errorString" (.ptr (.agg [.lit (.string [99, 97, 117, 115, 101, 119, 97, 121, 58, 32, 110, 97, 109, 101])]))
def laid_causeway_api_ErrNone {H : Type} : DataW H := .iface "*errors.errorString" (.ptr (.agg [.lit (.string [99, 97, 117, 115, 101, 119, 97, 121, 58, 32, 110, 111, 110, 101])]))
def laid_causeway_api_ErrExist {H : Type} : DataW H := .iface "*errors.errorString" (.ptr (.agg [.lit (.string [99, 97, 117, 115, 101, 119, 97, 121, 58, 32, 101, 120, 105, 115, 116])]))
def laid_causeway_api_ErrFull {H : Type} : DataW H := .iface "*errors.errorString" (.ptr (.agg [.lit (.string [99, 97, 117, 115, 101, 119, 97, 121, 58, 32, 102, 117, 108, 108])]))
def laid_causeway_api_ErrSum {H : Type} : DataW H := .iface "*errors.errorString" (.ptr (.agg [.lit (.string [99, 97, 117, 115, 101, 119, 97, 121, 58, 32, 115, 117, 109])]))
def laid_causeway_api_ErrOld {H : Type} : DataW H := .iface "*errors.errorString" (.ptr (.agg [.lit (.string [99, 97, 117, 115, 101, 119, 97, 121, 58, 32, 111, 108, 100])]))
def laid_causeway_api_ErrHeld {H : Type} : DataW H := .iface "*errors.errorString" (.ptr (.agg [.lit (.string [99, 97, 117, 115, 101, 119, 97, 121, 58, 32, 104, 101, 108, 100])]))
def laid_causeway_api_ErrWait {H : Type} : DataW H := .iface "*errors.errorString" (.ptr (.agg [.lit (.string [99, 97, 117, 115, 101, 119, 97, 121, 58, 32, 119, 97, 105, 116])]))
def laid_causeway_api_ErrKind {H : Type} : DataW H := .iface "*errors.errorString" (.ptr (.agg [.lit (.string [99, 97, 117, 115, 101, 119, 97, 121, 58, 32, 107, 105, 110, 100])]))

/-- 'causewaylaw1.ValuesCheck': WHATEVER THE INPUT: true; the input reads as it did. -/
def valuesCheckSpec : ChangeSpec := { name := "valuesCheck", fn := fun _ => fun
  | [d1, d2, d3] => { results := [.lit (.bool true)], args := [d1, d2, d3] }
  | _ => none }
def valuesCheckRow : OpenClaim := { program := "ytpjkiomccpjboaagreatdoor", sum := "eb2cbe1bab06c3a0ea056a35f9e76da3aa3db5527f7f3da1d530a592f42ee928", func := "causeway/causewaylaw1.ValuesCheck", spec := "valuesCheck", inPlace := ["internal/reflectlite.ValueOf", "(internal/reflectlite.Value).Type", "(internal/reflectlite.Value).IsNil", "internal/reflectlite.TypeOf", "(internal/reflectlite.Value).Elem", "(internal/reflectlite.Value).Set"], unfollowed := true, recurses := true, named := ["causeway/api.ErrName", "causeway/api.ErrShape", "causeway/api.ErrBound", "causeway/api.ErrKind", "errors.errorType", "causeway/api.ErrText", "causeway/api.ErrNone", "causeway/api.ErrExist", "causeway/api.ErrFull", "causeway/api.ErrSum", "causeway/api.ErrOld", "causeway/api.ErrHeld", "causeway/api.ErrWait"], plainKeys := false, apart := false, laid := [("errors.errorType", laid_errors_errorType), ("causeway/api.ErrText", laid_causeway_api_ErrText), ("causeway/api.ErrBound", laid_causeway_api_ErrBound), ("causeway/api.ErrShape", laid_causeway_api_ErrShape), ("causeway/api.ErrName", laid_causeway_api_ErrName), ("causeway/api.ErrNone", laid_causeway_api_ErrNone), ("causeway/api.ErrExist", laid_causeway_api_ErrExist), ("causeway/api.ErrFull", laid_causeway_api_ErrFull), ("causeway/api.ErrSum", laid_causeway_api_ErrSum), ("causeway/api.ErrOld", laid_causeway_api_ErrOld), ("causeway/api.ErrHeld", laid_causeway_api_ErrHeld), ("causeway/api.ErrWait", laid_causeway_api_ErrWait), ("causeway/api.ErrKind", laid_causeway_api_ErrKind)] }
def ValuesCheckSaid : Prop := valuesCheckRow.holds Tryz.pinned (OpenSpec.ofChange valuesCheckSpec)

/-- ITS FALSE NEIGHBOUR: 'it returns false'. Refute it at one input. -/
def valuesCheckWrong : ChangeSpec := { name := "valuesCheck", fn := fun _ => fun
  | [d1, d2, d3] => { results := [.lit (.bool false)], args := [d1, d2, d3] }
  | _ => none }
def ValuesCheckWrongFalsely : Prop := valuesCheckRow.holds Tryz.pinned (OpenSpec.ofChange valuesCheckWrong)

/-- 'causewaylaw1.ValuesOf': WHATEVER THE INPUT: true; the input reads as it did. -/
def valuesOfSpec : ChangeSpec := { name := "valuesOf", fn := fun _ => fun
  | [d1, d2, d3] => { results := [.lit (.bool true)], args := [d1, d2, d3] }
  | _ => none }
def valuesOfRow : OpenClaim := { program := "ytpjkiomccpjboaagreatdoor", sum := "eb2cbe1bab06c3a0ea056a35f9e76da3aa3db5527f7f3da1d530a592f42ee928", func := "causeway/causewaylaw1.ValuesOf", spec := "valuesOf", inPlace := ["internal/reflectlite.ValueOf", "(internal/reflectlite.Value).Type", "(internal/reflectlite.Value).IsNil", "internal/reflectlite.TypeOf", "(internal/reflectlite.Value).Elem", "(internal/reflectlite.Value).Set"], unfollowed := true, recurses := true, named := ["causeway/api.ErrName", "causeway/api.ErrShape", "causeway/api.ErrBound", "causeway/api.ErrKind", "errors.errorType", "causeway/api.ErrText", "causeway/api.ErrNone", "causeway/api.ErrExist", "causeway/api.ErrFull", "causeway/api.ErrSum", "causeway/api.ErrOld", "causeway/api.ErrHeld", "causeway/api.ErrWait"], plainKeys := false, apart := false, laid := [("errors.errorType", laid_errors_errorType), ("causeway/api.ErrText", laid_causeway_api_ErrText), ("causeway/api.ErrBound", laid_causeway_api_ErrBound), ("causeway/api.ErrShape", laid_causeway_api_ErrShape), ("causeway/api.ErrName", laid_causeway_api_ErrName), ("causeway/api.ErrNone", laid_causeway_api_ErrNone), ("causeway/api.ErrExist", laid_causeway_api_ErrExist), ("causeway/api.ErrFull", laid_causeway_api_ErrFull), ("causeway/api.ErrSum", laid_causeway_api_ErrSum), ("causeway/api.ErrOld", laid_causeway_api_ErrOld), ("causeway/api.ErrHeld", laid_causeway_api_ErrHeld), ("causeway/api.ErrWait", laid_causeway_api_ErrWait), ("causeway/api.ErrKind", laid_causeway_api_ErrKind)] }
def ValuesOfSaid : Prop := valuesOfRow.holds Tryz.pinned (OpenSpec.ofChange valuesOfSpec)

/-- ITS FALSE NEIGHBOUR: 'it returns false'. Refute it at one input. -/
def valuesOfWrong : ChangeSpec := { name := "valuesOf", fn := fun _ => fun
  | [d1, d2, d3] => { results := [.lit (.bool false)], args := [d1, d2, d3] }
  | _ => none }
def ValuesOfWrongFalsely : Prop := valuesOfRow.holds Tryz.pinned (OpenSpec.ofChange valuesOfWrong)

/-- 'causewaylaw1.ValuesTurned': WHATEVER THE INPUT: true; the input reads as it did. -/
def valuesTurnedSpec : ChangeSpec := { name := "valuesTurned", fn := fun _ => fun
  | [d1, d2, d3, d4] => { results := [.lit (.bool true)], args := [d1, d2, d3, d4] }
  | _ => none }
def valuesTurnedRow : OpenClaim := { program := "ytpjkiomccpjboaagreatdoor", sum := "eb2cbe1bab06c3a0ea056a35f9e76da3aa3db5527f7f3da1d530a592f42ee928", func := "causeway/causewaylaw1.ValuesTurned", spec := "valuesTurned", inPlace := ["internal/reflectlite.ValueOf", "(internal/reflectlite.Value).Type", "(internal/reflectlite.Value).IsNil", "internal/reflectlite.TypeOf", "(internal/reflectlite.Value).Elem", "(internal/reflectlite.Value).Set"], unfollowed := true, recurses := true, named := ["causeway/api.ErrName", "causeway/api.ErrShape", "causeway/api.ErrBound", "causeway/api.ErrKind", "errors.errorType"], plainKeys := false, apart := false, laid := [("errors.errorType", laid_errors_errorType), ("causeway/api.ErrBound", laid_causeway_api_ErrBound), ("causeway/api.ErrShape", laid_causeway_api_ErrShape), ("causeway/api.ErrName", laid_causeway_api_ErrName), ("causeway/api.ErrKind", laid_causeway_api_ErrKind)] }
def ValuesTurnedSaid : Prop := valuesTurnedRow.holds Tryz.pinned (OpenSpec.ofChange valuesTurnedSpec)

/-- ITS FALSE NEIGHBOUR: 'it returns false'. Refute it at one input. -/
def valuesTurnedWrong : ChangeSpec := { name := "valuesTurned", fn := fun _ => fun
  | [d1, d2, d3, d4] => { results := [.lit (.bool false)], args := [d1, d2, d3, d4] }
  | _ => none }
def ValuesTurnedWrongFalsely : Prop := valuesTurnedRow.holds Tryz.pinned (OpenSpec.ofChange valuesTurnedWrong)

/-- 'causewaylaw1.ValuesAdds': WHATEVER THE INPUT: true; the input reads as it did. -/
def valuesAddsSpec : ChangeSpec := { name := "valuesAdds", fn := fun _ => fun
  | [d1, d2, d3, d4] => { results := [.lit (.bool true)], args := [d1, d2, d3, d4] }
  | _ => none }
def valuesAddsRow : OpenClaim := { program := "ytpjkiomccpjboaagreatdoor", sum := "eb2cbe1bab06c3a0ea056a35f9e76da3aa3db5527f7f3da1d530a592f42ee928", func := "causeway/causewaylaw1.ValuesAdds", spec := "valuesAdds", inPlace := ["internal/reflectlite.ValueOf", "(internal/reflectlite.Value).Type", "(internal/reflectlite.Value).IsNil", "internal/reflectlite.TypeOf", "(internal/reflectlite.Value).Elem", "(internal/reflectlite.Value).Set"], unfollowed := true, recurses := true, named := ["causeway/api.ErrName", "causeway/api.ErrShape", "causeway/api.ErrBound", "causeway/api.ErrKind", "errors.errorType"], plainKeys := false, apart := false, laid := [("errors.errorType", laid_errors_errorType), ("causeway/api.ErrBound", laid_causeway_api_ErrBound), ("causeway/api.ErrShape", laid_causeway_api_ErrShape), ("causeway/api.ErrName", laid_causeway_api_ErrName), ("causeway/api.ErrKind", laid_causeway_api_ErrKind)] }
def ValuesAddsSaid : Prop := valuesAddsRow.holds Tryz.pinned (OpenSpec.ofChange valuesAddsSpec)

/-- ITS FALSE NEIGHBOUR: 'it returns false'. Refute it at one input. -/
def valuesAddsWrong : ChangeSpec := { name := "valuesAdds", fn := fun _ => fun
  | [d1, d2, d3, d4] => { results := [.lit (.bool false)], args := [d1, d2, d3, d4] }
  | _ => none }
def ValuesAddsWrongFalsely : Prop := valuesAddsRow.holds Tryz.pinned (OpenSpec.ofChange valuesAddsWrong)

/-- 'causewaylaw1.ValuesSets': WHATEVER THE INPUT: true; the input reads as it did. -/
def valuesSetsSpec : ChangeSpec := { name := "valuesSets", fn := fun _ => fun
  | [d1, d2, d3] => { results := [.lit (.bool true)], args := [d1, d2, d3] }
  | _ => none }
def valuesSetsRow : OpenClaim := { program := "ytpjkiomccpjboaagreatdoor", sum := "eb2cbe1bab06c3a0ea056a35f9e76da3aa3db5527f7f3da1d530a592f42ee928", func := "causeway/causewaylaw1.ValuesSets", spec := "valuesSets", inPlace := ["internal/reflectlite.ValueOf", "(internal/reflectlite.Value).Type", "(internal/reflectlite.Value).IsNil", "internal/reflectlite.TypeOf", "(internal/reflectlite.Value).Elem", "(internal/reflectlite.Value).Set"], unfollowed := true, recurses := true, named := ["causeway/api.ErrName", "causeway/api.ErrShape", "causeway/api.ErrBound", "causeway/api.ErrKind", "errors.errorType"], plainKeys := false, apart := false, laid := [("errors.errorType", laid_errors_errorType), ("causeway/api.ErrBound", laid_causeway_api_ErrBound), ("causeway/api.ErrShape", laid_causeway_api_ErrShape), ("causeway/api.ErrName", laid_causeway_api_ErrName), ("causeway/api.ErrKind", laid_causeway_api_ErrKind)] }
def ValuesSetsSaid : Prop := valuesSetsRow.holds Tryz.pinned (OpenSpec.ofChange valuesSetsSpec)

/-- ITS FALSE NEIGHBOUR: 'it returns false'. Refute it at one input. -/
def valuesSetsWrong : ChangeSpec := { name := "valuesSets", fn := fun _ => fun
  | [d1, d2, d3] => { results := [.lit (.bool false)], args := [d1, d2, d3] }
  | _ => none }
def ValuesSetsWrongFalsely : Prop := valuesSetsRow.holds Tryz.pinned (OpenSpec.ofChange valuesSetsWrong)

/-- 'causewaylaw1.VersionsActs': WHATEVER THE INPUT: true; the input reads as it did. -/
def versionsActsSpec : ChangeSpec := { name := "versionsActs", fn := fun _ => fun
  | [d1, d2] => { results := [.lit (.bool true)], args := [d1, d2] }
  | _ => none }
def versionsActsRow : OpenClaim := { program := "ytpjkiomccpjboaagreatdoor", sum := "eb2cbe1bab06c3a0ea056a35f9e76da3aa3db5527f7f3da1d530a592f42ee928", func := "causeway/causewaylaw1.VersionsActs", spec := "versionsActs", inPlace := ["internal/reflectlite.ValueOf", "(internal/reflectlite.Value).Type", "(internal/reflectlite.Value).IsNil", "internal/reflectlite.TypeOf", "(internal/reflectlite.Value).Elem", "(internal/reflectlite.Value).Set", "maps.clone"], unfollowed := true, recurses := true, named := ["causeway/api.ErrBound", "causeway/api.ErrShape", "causeway/api.ErrOld", "causeway/api.ErrExist", "causeway/api.ErrName", "causeway/api.ErrKind", "errors.errorType", "causeway/api.ErrText", "causeway/api.ErrNone", "causeway/api.ErrFull", "causeway/api.ErrSum", "causeway/api.ErrHeld", "causeway/api.ErrWait"], plainKeys := false, apart := false, laid := [("errors.errorType", laid_errors_errorType), ("causeway/api.ErrText", laid_causeway_api_ErrText), ("causeway/api.ErrBound", laid_causeway_api_ErrBound), ("causeway/api.ErrShape", laid_causeway_api_ErrShape), ("causeway/api.ErrName", laid_causeway_api_ErrName), ("causeway/api.ErrNone", laid_causeway_api_ErrNone), ("causeway/api.ErrExist", laid_causeway_api_ErrExist), ("causeway/api.ErrFull", laid_causeway_api_ErrFull), ("causeway/api.ErrSum", laid_causeway_api_ErrSum), ("causeway/api.ErrOld", laid_causeway_api_ErrOld), ("causeway/api.ErrHeld", laid_causeway_api_ErrHeld), ("causeway/api.ErrWait", laid_causeway_api_ErrWait), ("causeway/api.ErrKind", laid_causeway_api_ErrKind)] }
def VersionsActsSaid : Prop := versionsActsRow.holds Tryz.pinned (OpenSpec.ofChange versionsActsSpec)

/-- ITS FALSE NEIGHBOUR: 'it returns false'. Refute it at one input. -/
def versionsActsWrong : ChangeSpec := { name := "versionsActs", fn := fun _ => fun
  | [d1, d2] => { results := [.lit (.bool false)], args := [d1, d2] }
  | _ => none }
def VersionsActsWrongFalsely : Prop := versionsActsRow.holds Tryz.pinned (OpenSpec.ofChange versionsActsWrong)

/-- 'causewaylaw1.VersionsParts': WHATEVER THE INPUT: true; the input reads as it did. -/
def versionsPartsSpec : ChangeSpec := { name := "versionsParts", fn := fun _ => fun
  | [d1, d2, d3, d4, d5] => { results := [.lit (.bool true)], args := [d1, d2, d3, d4, d5] }
  | _ => none }
def versionsPartsRow : OpenClaim := { program := "ytpjkiomccpjboaagreatdoor", sum := "eb2cbe1bab06c3a0ea056a35f9e76da3aa3db5527f7f3da1d530a592f42ee928", func := "causeway/causewaylaw1.VersionsParts", spec := "versionsParts", inPlace := ["internal/reflectlite.ValueOf", "(internal/reflectlite.Value).Type", "(internal/reflectlite.Value).IsNil", "internal/reflectlite.TypeOf", "(internal/reflectlite.Value).Elem", "(internal/reflectlite.Value).Set"], unfollowed := true, recurses := true, named := ["causeway/api.ErrBound", "causeway/api.ErrShape", "causeway/api.ErrOld", "causeway/api.ErrExist", "causeway/api.ErrName", "causeway/api.ErrKind", "errors.errorType"], plainKeys := false, apart := false, laid := [("errors.errorType", laid_errors_errorType), ("causeway/api.ErrBound", laid_causeway_api_ErrBound), ("causeway/api.ErrShape", laid_causeway_api_ErrShape), ("causeway/api.ErrName", laid_causeway_api_ErrName), ("causeway/api.ErrExist", laid_causeway_api_ErrExist), ("causeway/api.ErrOld", laid_causeway_api_ErrOld), ("causeway/api.ErrKind", laid_causeway_api_ErrKind)] }
def VersionsPartsSaid : Prop := versionsPartsRow.holds Tryz.pinned (OpenSpec.ofChange versionsPartsSpec)

/-- ITS FALSE NEIGHBOUR: 'it returns false'. Refute it at one input. -/
def versionsPartsWrong : ChangeSpec := { name := "versionsParts", fn := fun _ => fun
  | [d1, d2, d3, d4, d5] => { results := [.lit (.bool false)], args := [d1, d2, d3, d4, d5] }
  | _ => none }
def VersionsPartsWrongFalsely : Prop := versionsPartsRow.holds Tryz.pinned (OpenSpec.ofChange versionsPartsWrong)

/-- 'causewaylaw1.VersionsPrunes': WHATEVER THE INPUT: true; the input reads as it did. -/
def versionsPrunesSpec : ChangeSpec := { name := "versionsPrunes", fn := fun _ => fun
  | [d1, d2, d3, d4, d5] => { results := [.lit (.bool true)], args := [d1, d2, d3, d4, d5] }
  | _ => none }
def versionsPrunesRow : OpenClaim := { program := "ytpjkiomccpjboaagreatdoor", sum := "eb2cbe1bab06c3a0ea056a35f9e76da3aa3db5527f7f3da1d530a592f42ee928", func := "causeway/causewaylaw1.VersionsPrunes", spec := "versionsPrunes", inPlace := ["internal/reflectlite.ValueOf", "(internal/reflectlite.Value).Type", "(internal/reflectlite.Value).IsNil", "internal/reflectlite.TypeOf", "(internal/reflectlite.Value).Elem", "(internal/reflectlite.Value).Set", "maps.clone"], unfollowed := true, recurses := true, named := ["causeway/api.ErrBound", "causeway/api.ErrShape", "causeway/api.ErrOld", "causeway/api.ErrExist", "causeway/api.ErrName", "causeway/api.ErrKind", "errors.errorType", "causeway/api.ErrText", "causeway/api.ErrNone", "causeway/api.ErrFull", "causeway/api.ErrSum", "causeway/api.ErrHeld", "causeway/api.ErrWait"], plainKeys := false, apart := false, laid := [("errors.errorType", laid_errors_errorType), ("causeway/api.ErrText", laid_causeway_api_ErrText), ("causeway/api.ErrBound", laid_causeway_api_ErrBound), ("causeway/api.ErrShape", laid_causeway_api_ErrShape), ("causeway/api.ErrName", laid_causeway_api_ErrName), ("causeway/api.ErrNone", laid_causeway_api_ErrNone), ("causeway/api.ErrExist", laid_causeway_api_ErrExist), ("causeway/api.ErrFull", laid_causeway_api_ErrFull), ("causeway/api.ErrSum", laid_causeway_api_ErrSum), ("causeway/api.ErrOld", laid_causeway_api_ErrOld), ("causeway/api.ErrHeld", laid_causeway_api_ErrHeld), ("causeway/api.ErrWait", laid_causeway_api_ErrWait), ("causeway/api.ErrKind", laid_causeway_api_ErrKind)] }
def VersionsPrunesSaid : Prop := versionsPrunesRow.holds Tryz.pinned (OpenSpec.ofChange versionsPrunesSpec)

/-- ITS FALSE NEIGHBOUR: 'it returns false'. Refute it at one input. -/
def versionsPrunesWrong : ChangeSpec := { name := "versionsPrunes", fn := fun _ => fun
  | [d1, d2, d3, d4, d5] => { results := [.lit (.bool false)], args := [d1, d2, d3, d4, d5] }
  | _ => none }
def VersionsPrunesWrongFalsely : Prop := versionsPrunesRow.holds Tryz.pinned (OpenSpec.ofChange versionsPrunesWrong)

/- THE SECOND FORM. 'bulk': how many values and letters a reading holds, each counted each time it is reached (what is shared counts as often as it is met; a slice's spare places count too). A statement '..UptoSaid' is the law's where the arguments, and the package variables that the reading takes, are together of bulk at most 1048576: NARROWER than '..Said'. Prove '..Said' where nothing that the law and all that it calls make is longer than what came in: it says more and counts as full. Else prove '..UptoSaid'. A law counts once. -/
mutual
def uptoBulk {H : Type} : DataW H → Nat
  | .lit (.string bytes) => bytes.length + 1
  | .lit _ => 1
  | .nil => 1
  | .ptr d => uptoBulk d + 1
  | .slice elems spare => uptoBulkAll elems + uptoBulkAll spare + 1
  | .agg parts => uptoBulkAll parts + 1
  | .iface _ d => uptoBulk d + 1
  | .map entries => uptoBulkEntries entries + 1
  | .held _ => 1
def uptoBulkAll {H : Type} : List (DataW H) → Nat
  | [] => 0
  | d :: r => uptoBulk d + uptoBulkAll r
def uptoBulkEntries {H : Type} : List (Lit × DataW H) → Nat
  | [] => 0
  | x :: r => uptoBulkEntry x + uptoBulkEntries r
def uptoBulkEntry {H : Type} : Lit × DataW H → Nat
  | (.string bytes, d) => bytes.length + uptoBulk d + 1
  | (_, d) => uptoBulk d + 1
 end
def uptoSmall : (H : Type) → List (DataW H) → Bool := fun _ ds => decide (uptoBulkAll ds ≤ 1048576)
def OpenSpec.upto (s : _root_.Go.ChangeSpec) : _root_.Go.OpenSpec := { _root_.Go.OpenSpec.ofChange s with cond := some uptoSmall }

/-- 'causewaylaw1.ValuesCheck', WHERE WHAT IT READS IS OF BULK AT MOST 1048576: true; the input reads as it did. -/
def valuesCheckUptoRow : OpenClaim := { program := "ytpjkiomccpjboaagreatdoor", sum := "eb2cbe1bab06c3a0ea056a35f9e76da3aa3db5527f7f3da1d530a592f42ee928", func := "causeway/causewaylaw1.ValuesCheck", spec := "valuesCheck", inPlace := ["internal/reflectlite.ValueOf", "(internal/reflectlite.Value).Type", "(internal/reflectlite.Value).IsNil", "internal/reflectlite.TypeOf", "(internal/reflectlite.Value).Elem", "(internal/reflectlite.Value).Set"], unfollowed := true, recurses := true, named := ["causeway/api.ErrName", "causeway/api.ErrShape", "causeway/api.ErrBound", "causeway/api.ErrKind", "errors.errorType", "causeway/api.ErrText", "causeway/api.ErrNone", "causeway/api.ErrExist", "causeway/api.ErrFull", "causeway/api.ErrSum", "causeway/api.ErrOld", "causeway/api.ErrHeld", "causeway/api.ErrWait"], plainKeys := false, apart := false, laid := [("errors.errorType", laid_errors_errorType), ("causeway/api.ErrText", laid_causeway_api_ErrText), ("causeway/api.ErrBound", laid_causeway_api_ErrBound), ("causeway/api.ErrShape", laid_causeway_api_ErrShape), ("causeway/api.ErrName", laid_causeway_api_ErrName), ("causeway/api.ErrNone", laid_causeway_api_ErrNone), ("causeway/api.ErrExist", laid_causeway_api_ErrExist), ("causeway/api.ErrFull", laid_causeway_api_ErrFull), ("causeway/api.ErrSum", laid_causeway_api_ErrSum), ("causeway/api.ErrOld", laid_causeway_api_ErrOld), ("causeway/api.ErrHeld", laid_causeway_api_ErrHeld), ("causeway/api.ErrWait", laid_causeway_api_ErrWait), ("causeway/api.ErrKind", laid_causeway_api_ErrKind)], narrowed := true }
def ValuesCheckUptoSaid : Prop := valuesCheckUptoRow.holds Tryz.pinned (OpenSpec.upto valuesCheckSpec)

/-- 'causewaylaw1.ValuesOf', WHERE WHAT IT READS IS OF BULK AT MOST 1048576: true; the input reads as it did. -/
def valuesOfUptoRow : OpenClaim := { program := "ytpjkiomccpjboaagreatdoor", sum := "eb2cbe1bab06c3a0ea056a35f9e76da3aa3db5527f7f3da1d530a592f42ee928", func := "causeway/causewaylaw1.ValuesOf", spec := "valuesOf", inPlace := ["internal/reflectlite.ValueOf", "(internal/reflectlite.Value).Type", "(internal/reflectlite.Value).IsNil", "internal/reflectlite.TypeOf", "(internal/reflectlite.Value).Elem", "(internal/reflectlite.Value).Set"], unfollowed := true, recurses := true, named := ["causeway/api.ErrName", "causeway/api.ErrShape", "causeway/api.ErrBound", "causeway/api.ErrKind", "errors.errorType", "causeway/api.ErrText", "causeway/api.ErrNone", "causeway/api.ErrExist", "causeway/api.ErrFull", "causeway/api.ErrSum", "causeway/api.ErrOld", "causeway/api.ErrHeld", "causeway/api.ErrWait"], plainKeys := false, apart := false, laid := [("errors.errorType", laid_errors_errorType), ("causeway/api.ErrText", laid_causeway_api_ErrText), ("causeway/api.ErrBound", laid_causeway_api_ErrBound), ("causeway/api.ErrShape", laid_causeway_api_ErrShape), ("causeway/api.ErrName", laid_causeway_api_ErrName), ("causeway/api.ErrNone", laid_causeway_api_ErrNone), ("causeway/api.ErrExist", laid_causeway_api_ErrExist), ("causeway/api.ErrFull", laid_causeway_api_ErrFull), ("causeway/api.ErrSum", laid_causeway_api_ErrSum), ("causeway/api.ErrOld", laid_causeway_api_ErrOld), ("causeway/api.ErrHeld", laid_causeway_api_ErrHeld), ("causeway/api.ErrWait", laid_causeway_api_ErrWait), ("causeway/api.ErrKind", laid_causeway_api_ErrKind)], narrowed := true }
def ValuesOfUptoSaid : Prop := valuesOfUptoRow.holds Tryz.pinned (OpenSpec.upto valuesOfSpec)

/-- 'causewaylaw1.ValuesTurned', WHERE WHAT IT READS IS OF BULK AT MOST 1048576: true; the input reads as it did. -/
def valuesTurnedUptoRow : OpenClaim := { program := "ytpjkiomccpjboaagreatdoor", sum := "eb2cbe1bab06c3a0ea056a35f9e76da3aa3db5527f7f3da1d530a592f42ee928", func := "causeway/causewaylaw1.ValuesTurned", spec := "valuesTurned", inPlace := ["internal/reflectlite.ValueOf", "(internal/reflectlite.Value).Type", "(internal/reflectlite.Value).IsNil", "internal/reflectlite.TypeOf", "(internal/reflectlite.Value).Elem", "(internal/reflectlite.Value).Set"], unfollowed := true, recurses := true, named := ["causeway/api.ErrName", "causeway/api.ErrShape", "causeway/api.ErrBound", "causeway/api.ErrKind", "errors.errorType"], plainKeys := false, apart := false, laid := [("errors.errorType", laid_errors_errorType), ("causeway/api.ErrBound", laid_causeway_api_ErrBound), ("causeway/api.ErrShape", laid_causeway_api_ErrShape), ("causeway/api.ErrName", laid_causeway_api_ErrName), ("causeway/api.ErrKind", laid_causeway_api_ErrKind)], narrowed := true }
def ValuesTurnedUptoSaid : Prop := valuesTurnedUptoRow.holds Tryz.pinned (OpenSpec.upto valuesTurnedSpec)

/-- 'causewaylaw1.ValuesAdds', WHERE WHAT IT READS IS OF BULK AT MOST 1048576: true; the input reads as it did. -/
def valuesAddsUptoRow : OpenClaim := { program := "ytpjkiomccpjboaagreatdoor", sum := "eb2cbe1bab06c3a0ea056a35f9e76da3aa3db5527f7f3da1d530a592f42ee928", func := "causeway/causewaylaw1.ValuesAdds", spec := "valuesAdds", inPlace := ["internal/reflectlite.ValueOf", "(internal/reflectlite.Value).Type", "(internal/reflectlite.Value).IsNil", "internal/reflectlite.TypeOf", "(internal/reflectlite.Value).Elem", "(internal/reflectlite.Value).Set"], unfollowed := true, recurses := true, named := ["causeway/api.ErrName", "causeway/api.ErrShape", "causeway/api.ErrBound", "causeway/api.ErrKind", "errors.errorType"], plainKeys := false, apart := false, laid := [("errors.errorType", laid_errors_errorType), ("causeway/api.ErrBound", laid_causeway_api_ErrBound), ("causeway/api.ErrShape", laid_causeway_api_ErrShape), ("causeway/api.ErrName", laid_causeway_api_ErrName), ("causeway/api.ErrKind", laid_causeway_api_ErrKind)], narrowed := true }
def ValuesAddsUptoSaid : Prop := valuesAddsUptoRow.holds Tryz.pinned (OpenSpec.upto valuesAddsSpec)

/-- 'causewaylaw1.ValuesSets', WHERE WHAT IT READS IS OF BULK AT MOST 1048576: true; the input reads as it did. -/
def valuesSetsUptoRow : OpenClaim := { program := "ytpjkiomccpjboaagreatdoor", sum := "eb2cbe1bab06c3a0ea056a35f9e76da3aa3db5527f7f3da1d530a592f42ee928", func := "causeway/causewaylaw1.ValuesSets", spec := "valuesSets", inPlace := ["internal/reflectlite.ValueOf", "(internal/reflectlite.Value).Type", "(internal/reflectlite.Value).IsNil", "internal/reflectlite.TypeOf", "(internal/reflectlite.Value).Elem", "(internal/reflectlite.Value).Set"], unfollowed := true, recurses := true, named := ["causeway/api.ErrName", "causeway/api.ErrShape", "causeway/api.ErrBound", "causeway/api.ErrKind", "errors.errorType"], plainKeys := false, apart := false, laid := [("errors.errorType", laid_errors_errorType), ("causeway/api.ErrBound", laid_causeway_api_ErrBound), ("causeway/api.ErrShape", laid_causeway_api_ErrShape), ("causeway/api.ErrName", laid_causeway_api_ErrName), ("causeway/api.ErrKind", laid_causeway_api_ErrKind)], narrowed := true }
def ValuesSetsUptoSaid : Prop := valuesSetsUptoRow.holds Tryz.pinned (OpenSpec.upto valuesSetsSpec)

/-- 'causewaylaw1.VersionsActs', WHERE WHAT IT READS IS OF BULK AT MOST 1048576: true; the input reads as it did. -/
def versionsActsUptoRow : OpenClaim := { program := "ytpjkiomccpjboaagreatdoor", sum := "eb2cbe1bab06c3a0ea056a35f9e76da3aa3db5527f7f3da1d530a592f42ee928", func := "causeway/causewaylaw1.VersionsActs", spec := "versionsActs", inPlace := ["internal/reflectlite.ValueOf", "(internal/reflectlite.Value).Type", "(internal/reflectlite.Value).IsNil", "internal/reflectlite.TypeOf", "(internal/reflectlite.Value).Elem", "(internal/reflectlite.Value).Set", "maps.clone"], unfollowed := true, recurses := true, named := ["causeway/api.ErrBound", "causeway/api.ErrShape", "causeway/api.ErrOld", "causeway/api.ErrExist", "causeway/api.ErrName", "causeway/api.ErrKind", "errors.errorType", "causeway/api.ErrText", "causeway/api.ErrNone", "causeway/api.ErrFull", "causeway/api.ErrSum", "causeway/api.ErrHeld", "causeway/api.ErrWait"], plainKeys := false, apart := false, laid := [("errors.errorType", laid_errors_errorType), ("causeway/api.ErrText", laid_causeway_api_ErrText), ("causeway/api.ErrBound", laid_causeway_api_ErrBound), ("causeway/api.ErrShape", laid_causeway_api_ErrShape), ("causeway/api.ErrName", laid_causeway_api_ErrName), ("causeway/api.ErrNone", laid_causeway_api_ErrNone), ("causeway/api.ErrExist", laid_causeway_api_ErrExist), ("causeway/api.ErrFull", laid_causeway_api_ErrFull), ("causeway/api.ErrSum", laid_causeway_api_ErrSum), ("causeway/api.ErrOld", laid_causeway_api_ErrOld), ("causeway/api.ErrHeld", laid_causeway_api_ErrHeld), ("causeway/api.ErrWait", laid_causeway_api_ErrWait), ("causeway/api.ErrKind", laid_causeway_api_ErrKind)], narrowed := true }
def VersionsActsUptoSaid : Prop := versionsActsUptoRow.holds Tryz.pinned (OpenSpec.upto versionsActsSpec)

/-- 'causewaylaw1.VersionsParts', WHERE WHAT IT READS IS OF BULK AT MOST 1048576: true; the input reads as it did. -/
def versionsPartsUptoRow : OpenClaim := { program := "ytpjkiomccpjboaagreatdoor", sum := "eb2cbe1bab06c3a0ea056a35f9e76da3aa3db5527f7f3da1d530a592f42ee928", func := "causeway/causewaylaw1.VersionsParts", spec := "versionsParts", inPlace := ["internal/reflectlite.ValueOf", "(internal/reflectlite.Value).Type", "(internal/reflectlite.Value).IsNil", "internal/reflectlite.TypeOf", "(internal/reflectlite.Value).Elem", "(internal/reflectlite.Value).Set"], unfollowed := true, recurses := true, named := ["causeway/api.ErrBound", "causeway/api.ErrShape", "causeway/api.ErrOld", "causeway/api.ErrExist", "causeway/api.ErrName", "causeway/api.ErrKind", "errors.errorType"], plainKeys := false, apart := false, laid := [("errors.errorType", laid_errors_errorType), ("causeway/api.ErrBound", laid_causeway_api_ErrBound), ("causeway/api.ErrShape", laid_causeway_api_ErrShape), ("causeway/api.ErrName", laid_causeway_api_ErrName), ("causeway/api.ErrExist", laid_causeway_api_ErrExist), ("causeway/api.ErrOld", laid_causeway_api_ErrOld), ("causeway/api.ErrKind", laid_causeway_api_ErrKind)], narrowed := true }
def VersionsPartsUptoSaid : Prop := versionsPartsUptoRow.holds Tryz.pinned (OpenSpec.upto versionsPartsSpec)

/-- 'causewaylaw1.VersionsPrunes', WHERE WHAT IT READS IS OF BULK AT MOST 1048576: true; the input reads as it did. -/
def versionsPrunesUptoRow : OpenClaim := { program := "ytpjkiomccpjboaagreatdoor", sum := "eb2cbe1bab06c3a0ea056a35f9e76da3aa3db5527f7f3da1d530a592f42ee928", func := "causeway/causewaylaw1.VersionsPrunes", spec := "versionsPrunes", inPlace := ["internal/reflectlite.ValueOf", "(internal/reflectlite.Value).Type", "(internal/reflectlite.Value).IsNil", "internal/reflectlite.TypeOf", "(internal/reflectlite.Value).Elem", "(internal/reflectlite.Value).Set", "maps.clone"], unfollowed := true, recurses := true, named := ["causeway/api.ErrBound", "causeway/api.ErrShape", "causeway/api.ErrOld", "causeway/api.ErrExist", "causeway/api.ErrName", "causeway/api.ErrKind", "errors.errorType", "causeway/api.ErrText", "causeway/api.ErrNone", "causeway/api.ErrFull", "causeway/api.ErrSum", "causeway/api.ErrHeld", "causeway/api.ErrWait"], plainKeys := false, apart := false, laid := [("errors.errorType", laid_errors_errorType), ("causeway/api.ErrText", laid_causeway_api_ErrText), ("causeway/api.ErrBound", laid_causeway_api_ErrBound), ("causeway/api.ErrShape", laid_causeway_api_ErrShape), ("causeway/api.ErrName", laid_causeway_api_ErrName), ("causeway/api.ErrNone", laid_causeway_api_ErrNone), ("causeway/api.ErrExist", laid_causeway_api_ErrExist), ("causeway/api.ErrFull", laid_causeway_api_ErrFull), ("causeway/api.ErrSum", laid_causeway_api_ErrSum), ("causeway/api.ErrOld", laid_causeway_api_ErrOld), ("causeway/api.ErrHeld", laid_causeway_api_ErrHeld), ("causeway/api.ErrWait", laid_causeway_api_ErrWait), ("causeway/api.ErrKind", laid_causeway_api_ErrKind)], narrowed := true }
def VersionsPrunesUptoSaid : Prop := versionsPrunesUptoRow.holds Tryz.pinned (OpenSpec.upto versionsPrunesSpec)

end Rows
end Go.Proofs.YtpjkiomccpjboaaGreatDoor
