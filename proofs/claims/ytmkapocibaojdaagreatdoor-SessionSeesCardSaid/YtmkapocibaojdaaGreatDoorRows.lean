/-
  NARROWER THAN 'FOR EVERY INPUT', by the rows' own cells (each row's printed sentence says how): PlaceActs: laid · PlaceWhole: laid · PlaceCause: laid · PlaceTwo: laid · SessionKeeps: laid · SessionSees: laid · SessionSteps: laid · JudgeChecks: laid.
  DERIVED. THE GIVEN ROWS OF THIS SEAT. 8 by the template 'for every input the law returns true; each argument reads behind the call as it read before'; 0 by the template 'total and deterministic' (their statements: YtmkapocibaojdaaGreatDoorTotals.lean).
  GIVEN WITH THE SEED: the statements are not yours to turn. If you find one false, say at which input.
  Laid BY PROGRAM, IN A SANDBOX (cutbox-rows.mjs): the forced cells as the released guide's own fill.sh prints them over the translation d7d6943e34b58f9e… (all of the seat's roots in one cut). By AI agents, Wed Nov 11 2026. No macro, syntax, notation, axiom, sorry.
-/
import Derived.Test.YtmkapocibaojdaaGreatDoorChecked
import GoSem.Claim
import GoSem.ClaimJoined
import GoSem.ClaimMapViews
import Derived.JoinedTies
import Derived.KernelRfl
namespace Go.Proofs.YtmkapocibaojdaaGreatDoor
/- THE CELL 'sum', in the pinned program and in every row, IS THE sha256 OF THE DUMP (.gsa) THAT YtmkapocibaojdaaGreatDoorProg.lean LOADS. Nothing in Lean hashes anything: it is a label: what it is worth is what the hold of that sum in a sandbox is worth. -/
noncomputable def Tryz.pinned : Pinned := { name := "ytmkapocibaojdaagreatdoor", sum := "d7d6943e34b58f9e9b13b0f83a11834a62f536a84feefc1ccf6113cc4a577a0c", checked := Tryz.checked }
namespace Rows
def none {H : Type} : Left H := { results := [], args := [] }

/- WHAT THE LISTED PACKAGE-LEVEL VARIABLES READ AS WHEN THE CALL BEGINS. Each datum BY PROGRAM (the guide's laid-datum.mjs) off the statement by which the dump's own 'gosem.cut.vars' lays the variable. In a bare row this is a premise. The card (YtmkapocibaojdaaGreatDoorCards.lean) ties it to the program's text. -/
def laid_errors_errorType {H : Type} : DataW H := .iface "internal/reflectlite.rtype" (.agg [.ptr (.lit (.string [101, 114, 114, 111, 114]))])
def laid_causeway_api_ErrText {H : Type} : DataW H := .iface "*errors.errorString" (.ptr (.agg [.lit (.string [99, 97, 117, 115, 101, 119, 97, 121, 58, 32, 116, 101, 120, 116])]))
def laid_causeway_api_ErrBound {H : Type} : DataW H := .iface "*errors.errorString" (.ptr (.agg [.lit (.string [99, 97, 117, 115, 101, 119, 97, 121, 58, 32, 98, 111, 117, 110, 100])]))
def laid_causeway_api_ErrShape {H : Type} : DataW H := .iface "*errors.errorString" (.ptr (.agg [.lit (.string [99, 97, 117, 115, 101, 119, 97, 121, 58, 32, 115, 104, 97, 112, 101])]))
def laid_causeway_api_ErrName {H : Type} : DataW H := .iface "*errors.errorString" (.ptr (.agg [.lit (.string [99, 97, 117, 115, 101, 119, 97, 121, 58, 32, 110, 97, 109, 101])]))
def laid_causeway_api_ErrNone {H : Type} : DataW H := .iface "*errors.errorString" (.ptr (.agg [.lit (.string [99, 97, 117, 115, 101, 119, 97, 121, 58, 32, 110, 111, 110, 101])]))
def laid_causeway_api_ErrExist {H : Type} : DataW H := .iface "*errors.errorString" (.ptr (.agg [.lit (.string [99, 97, 117, 115, 101, 119, 97, 121, 58, 32, 101, 120, 105, 115, 116])]))
def laid_causeway_api_ErrFull {H : Type} : DataW H := .iface "*errors.errorString" (.ptr (.agg [.lit (.string [99, 97, 117, 115, 101, 119, 97, 121, 58, 32, 102, 117, 108, 108])]))
def laid_causeway_api_ErrSum {H : Type} : DataW H := .iface "*errors.errorString" (.ptr (.agg [.lit (.string [99, 97, 117, 115, 101, 119, 97, 121, 58, 32, 115, 117, 109])]))
def laid_causeway_api_ErrOld {H : Type} : DataW H := .iface "*errors.errorString" (.ptr (.agg [.lit (.string [99, 97, 117, 115, 101, 119, 97, 121, 58, 32, 111, 108, 100])]))
def laid_causeway_api_ErrHeld {H : Type} : DataW H := .iface "*errors.errorString" (.ptr (.agg [.lit (.string [99, 97, 117, 115, 101, 119, 97, 121, 58, 32, 104, 101, 108, 100])]))
def laid_causeway_api_ErrWait {H : Type} : DataW H := .iface "*errors.errorString" (.ptr (.agg [.lit (.string [99, 97, 117, 115, 101, 119, 97, 121, 58, 32, 119, 97, 105, 116])]))
def laid_causeway_api_ErrKind {H : Type} : DataW H := .iface "*errors.errorString" (.ptr (.agg [.lit (.string [99, 97, 117, 115, 101, 119, 97, 121, 58, 32, 107, 105, 110, 100])]))

/-- 'causewaylaw2.PlaceActs': WHATEVER THE INPUT: true; the input reads as it did. -/
def placeActsSpec : ChangeSpec := { name := "placeActs", fn := fun _ => fun
  | [d1, d2, d3, d4] => { results := [.lit (.bool true)], args := [d1, d2, d3, d4] }
  | _ => none }
def placeActsRow : OpenClaim := { program := "ytmkapocibaojdaagreatdoor", sum := "d7d6943e34b58f9e9b13b0f83a11834a62f536a84feefc1ccf6113cc4a577a0c", func := "causeway/causewaylaw2.PlaceActs", spec := "placeActs", inPlace := ["internal/reflectlite.ValueOf", "(internal/reflectlite.Value).Type", "(internal/reflectlite.Value).IsNil", "internal/reflectlite.TypeOf", "(internal/reflectlite.Value).Elem", "(internal/reflectlite.Value).Set"], unfollowed := true, recurses := true, named := ["causeway/api.ErrBound", "causeway/api.ErrShape", "causeway/api.ErrWait", "causeway/api.ErrName", "causeway/api.ErrKind", "causeway/api.ErrOld", "causeway/api.ErrExist", "causeway/api.ErrText", "causeway/api.ErrNone", "causeway/api.ErrFull", "causeway/api.ErrSum", "causeway/api.ErrHeld", "errors.errorType"], plainKeys := false, apart := false, laid := [("errors.errorType", laid_errors_errorType), ("causeway/api.ErrText", laid_causeway_api_ErrText), ("causeway/api.ErrBound", laid_causeway_api_ErrBound), ("causeway/api.ErrShape", laid_causeway_api_ErrShape), ("causeway/api.ErrName", laid_causeway_api_ErrName), ("causeway/api.ErrNone", laid_causeway_api_ErrNone), ("causeway/api.ErrExist", laid_causeway_api_ErrExist), ("causeway/api.ErrFull", laid_causeway_api_ErrFull), ("causeway/api.ErrSum", laid_causeway_api_ErrSum), ("causeway/api.ErrOld", laid_causeway_api_ErrOld), ("causeway/api.ErrHeld", laid_causeway_api_ErrHeld), ("causeway/api.ErrWait", laid_causeway_api_ErrWait), ("causeway/api.ErrKind", laid_causeway_api_ErrKind)] }
def PlaceActsSaid : Prop := placeActsRow.holds Tryz.pinned (OpenSpec.ofChange placeActsSpec)

/-- ITS FALSE NEIGHBOUR: 'it returns false'. Refute it at one input. -/
def placeActsWrong : ChangeSpec := { name := "placeActs", fn := fun _ => fun
  | [d1, d2, d3, d4] => { results := [.lit (.bool false)], args := [d1, d2, d3, d4] }
  | _ => none }
def PlaceActsWrongFalsely : Prop := placeActsRow.holds Tryz.pinned (OpenSpec.ofChange placeActsWrong)

/-- 'causewaylaw2.PlaceWhole': WHATEVER THE INPUT: true; the input reads as it did. -/
def placeWholeSpec : ChangeSpec := { name := "placeWhole", fn := fun _ => fun
  | [d1, d2, d3, d4] => { results := [.lit (.bool true)], args := [d1, d2, d3, d4] }
  | _ => none }
def placeWholeRow : OpenClaim := { program := "ytmkapocibaojdaagreatdoor", sum := "d7d6943e34b58f9e9b13b0f83a11834a62f536a84feefc1ccf6113cc4a577a0c", func := "causeway/causewaylaw2.PlaceWhole", spec := "placeWhole", inPlace := ["internal/reflectlite.ValueOf", "(internal/reflectlite.Value).Type", "(internal/reflectlite.Value).IsNil", "internal/reflectlite.TypeOf", "(internal/reflectlite.Value).Elem", "(internal/reflectlite.Value).Set"], unfollowed := true, recurses := true, named := ["causeway/api.ErrBound", "causeway/api.ErrShape", "causeway/api.ErrWait", "causeway/api.ErrName", "causeway/api.ErrKind", "causeway/api.ErrOld", "causeway/api.ErrExist", "causeway/api.ErrFull", "errors.errorType"], plainKeys := false, apart := false, laid := [("errors.errorType", laid_errors_errorType), ("causeway/api.ErrBound", laid_causeway_api_ErrBound), ("causeway/api.ErrShape", laid_causeway_api_ErrShape), ("causeway/api.ErrName", laid_causeway_api_ErrName), ("causeway/api.ErrExist", laid_causeway_api_ErrExist), ("causeway/api.ErrFull", laid_causeway_api_ErrFull), ("causeway/api.ErrOld", laid_causeway_api_ErrOld), ("causeway/api.ErrWait", laid_causeway_api_ErrWait), ("causeway/api.ErrKind", laid_causeway_api_ErrKind)] }
def PlaceWholeSaid : Prop := placeWholeRow.holds Tryz.pinned (OpenSpec.ofChange placeWholeSpec)

/-- ITS FALSE NEIGHBOUR: 'it returns false'. Refute it at one input. -/
def placeWholeWrong : ChangeSpec := { name := "placeWhole", fn := fun _ => fun
  | [d1, d2, d3, d4] => { results := [.lit (.bool false)], args := [d1, d2, d3, d4] }
  | _ => none }
def PlaceWholeWrongFalsely : Prop := placeWholeRow.holds Tryz.pinned (OpenSpec.ofChange placeWholeWrong)

/-- 'causewaylaw2.PlaceCause': WHATEVER THE INPUT: true; the input reads as it did. -/
def placeCauseSpec : ChangeSpec := { name := "placeCause", fn := fun _ => fun
  | [d1, d2, d3, d4] => { results := [.lit (.bool true)], args := [d1, d2, d3, d4] }
  | _ => none }
def placeCauseRow : OpenClaim := { program := "ytmkapocibaojdaagreatdoor", sum := "d7d6943e34b58f9e9b13b0f83a11834a62f536a84feefc1ccf6113cc4a577a0c", func := "causeway/causewaylaw2.PlaceCause", spec := "placeCause", inPlace := ["internal/reflectlite.ValueOf", "(internal/reflectlite.Value).Type", "(internal/reflectlite.Value).IsNil", "internal/reflectlite.TypeOf", "(internal/reflectlite.Value).Elem", "(internal/reflectlite.Value).Set"], unfollowed := true, recurses := true, named := ["causeway/api.ErrBound", "causeway/api.ErrShape", "causeway/api.ErrWait", "causeway/api.ErrName", "causeway/api.ErrKind", "causeway/api.ErrOld", "causeway/api.ErrExist", "causeway/api.ErrFull", "errors.errorType"], plainKeys := false, apart := false, laid := [("errors.errorType", laid_errors_errorType), ("causeway/api.ErrBound", laid_causeway_api_ErrBound), ("causeway/api.ErrShape", laid_causeway_api_ErrShape), ("causeway/api.ErrName", laid_causeway_api_ErrName), ("causeway/api.ErrExist", laid_causeway_api_ErrExist), ("causeway/api.ErrFull", laid_causeway_api_ErrFull), ("causeway/api.ErrOld", laid_causeway_api_ErrOld), ("causeway/api.ErrWait", laid_causeway_api_ErrWait), ("causeway/api.ErrKind", laid_causeway_api_ErrKind)] }
def PlaceCauseSaid : Prop := placeCauseRow.holds Tryz.pinned (OpenSpec.ofChange placeCauseSpec)

/-- ITS FALSE NEIGHBOUR: 'it returns false'. Refute it at one input. -/
def placeCauseWrong : ChangeSpec := { name := "placeCause", fn := fun _ => fun
  | [d1, d2, d3, d4] => { results := [.lit (.bool false)], args := [d1, d2, d3, d4] }
  | _ => none }
def PlaceCauseWrongFalsely : Prop := placeCauseRow.holds Tryz.pinned (OpenSpec.ofChange placeCauseWrong)

/-- 'causewaylaw2.PlaceTwo': WHATEVER THE INPUT: true; the input reads as it did. -/
def placeTwoSpec : ChangeSpec := { name := "placeTwo", fn := fun _ => fun
  | [d1, d2, d3, d4] => { results := [.lit (.bool true)], args := [d1, d2, d3, d4] }
  | _ => none }
def placeTwoRow : OpenClaim := { program := "ytmkapocibaojdaagreatdoor", sum := "d7d6943e34b58f9e9b13b0f83a11834a62f536a84feefc1ccf6113cc4a577a0c", func := "causeway/causewaylaw2.PlaceTwo", spec := "placeTwo", inPlace := ["internal/reflectlite.ValueOf", "(internal/reflectlite.Value).Type", "(internal/reflectlite.Value).IsNil", "internal/reflectlite.TypeOf", "(internal/reflectlite.Value).Elem", "(internal/reflectlite.Value).Set"], unfollowed := true, recurses := true, named := ["causeway/api.ErrBound", "causeway/api.ErrShape", "causeway/api.ErrWait", "causeway/api.ErrName", "causeway/api.ErrKind", "causeway/api.ErrOld", "causeway/api.ErrExist", "causeway/api.ErrFull", "errors.errorType", "causeway/api.ErrText", "causeway/api.ErrNone", "causeway/api.ErrSum", "causeway/api.ErrHeld"], plainKeys := false, apart := false, laid := [("errors.errorType", laid_errors_errorType), ("causeway/api.ErrText", laid_causeway_api_ErrText), ("causeway/api.ErrBound", laid_causeway_api_ErrBound), ("causeway/api.ErrShape", laid_causeway_api_ErrShape), ("causeway/api.ErrName", laid_causeway_api_ErrName), ("causeway/api.ErrNone", laid_causeway_api_ErrNone), ("causeway/api.ErrExist", laid_causeway_api_ErrExist), ("causeway/api.ErrFull", laid_causeway_api_ErrFull), ("causeway/api.ErrSum", laid_causeway_api_ErrSum), ("causeway/api.ErrOld", laid_causeway_api_ErrOld), ("causeway/api.ErrHeld", laid_causeway_api_ErrHeld), ("causeway/api.ErrWait", laid_causeway_api_ErrWait), ("causeway/api.ErrKind", laid_causeway_api_ErrKind)] }
def PlaceTwoSaid : Prop := placeTwoRow.holds Tryz.pinned (OpenSpec.ofChange placeTwoSpec)

/-- ITS FALSE NEIGHBOUR: 'it returns false'. Refute it at one input. -/
def placeTwoWrong : ChangeSpec := { name := "placeTwo", fn := fun _ => fun
  | [d1, d2, d3, d4] => { results := [.lit (.bool false)], args := [d1, d2, d3, d4] }
  | _ => none }
def PlaceTwoWrongFalsely : Prop := placeTwoRow.holds Tryz.pinned (OpenSpec.ofChange placeTwoWrong)

/-- 'causewaylaw2.SessionKeeps': WHATEVER THE INPUT: true; the input reads as it did. -/
def sessionKeepsSpec : ChangeSpec := { name := "sessionKeeps", fn := fun _ => fun
  | [d1, d2] => { results := [.lit (.bool true)], args := [d1, d2] }
  | _ => none }
def sessionKeepsRow : OpenClaim := { program := "ytmkapocibaojdaagreatdoor", sum := "d7d6943e34b58f9e9b13b0f83a11834a62f536a84feefc1ccf6113cc4a577a0c", func := "causeway/causewaylaw2.SessionKeeps", spec := "sessionKeeps", inPlace := ["internal/reflectlite.ValueOf", "(internal/reflectlite.Value).Type", "(internal/reflectlite.Value).IsNil", "internal/reflectlite.TypeOf", "(internal/reflectlite.Value).Elem", "(internal/reflectlite.Value).Set"], unfollowed := true, recurses := true, named := ["causeway/api.ErrBound", "causeway/api.ErrShape", "causeway/api.ErrHeld", "causeway/api.ErrWait", "causeway/api.ErrNone", "causeway/api.ErrFull", "causeway/api.ErrName", "causeway/api.ErrKind", "causeway/api.ErrOld", "errors.errorType", "causeway/api.ErrExist", "causeway/api.ErrText", "causeway/api.ErrSum"], plainKeys := false, apart := false, laid := [("errors.errorType", laid_errors_errorType), ("causeway/api.ErrText", laid_causeway_api_ErrText), ("causeway/api.ErrBound", laid_causeway_api_ErrBound), ("causeway/api.ErrShape", laid_causeway_api_ErrShape), ("causeway/api.ErrName", laid_causeway_api_ErrName), ("causeway/api.ErrNone", laid_causeway_api_ErrNone), ("causeway/api.ErrExist", laid_causeway_api_ErrExist), ("causeway/api.ErrFull", laid_causeway_api_ErrFull), ("causeway/api.ErrSum", laid_causeway_api_ErrSum), ("causeway/api.ErrOld", laid_causeway_api_ErrOld), ("causeway/api.ErrHeld", laid_causeway_api_ErrHeld), ("causeway/api.ErrWait", laid_causeway_api_ErrWait), ("causeway/api.ErrKind", laid_causeway_api_ErrKind)] }
def SessionKeepsSaid : Prop := sessionKeepsRow.holds Tryz.pinned (OpenSpec.ofChange sessionKeepsSpec)

/-- ITS FALSE NEIGHBOUR: 'it returns false'. Refute it at one input. -/
def sessionKeepsWrong : ChangeSpec := { name := "sessionKeeps", fn := fun _ => fun
  | [d1, d2] => { results := [.lit (.bool false)], args := [d1, d2] }
  | _ => none }
def SessionKeepsWrongFalsely : Prop := sessionKeepsRow.holds Tryz.pinned (OpenSpec.ofChange sessionKeepsWrong)

/-- 'causewaylaw2.SessionSees': WHATEVER THE INPUT: true; the input reads as it did. -/
def sessionSeesSpec : ChangeSpec := { name := "sessionSees", fn := fun _ => fun
  | [d1, d2, d3, d4] => { results := [.lit (.bool true)], args := [d1, d2, d3, d4] }
  | _ => none }
def sessionSeesRow : OpenClaim := { program := "ytmkapocibaojdaagreatdoor", sum := "d7d6943e34b58f9e9b13b0f83a11834a62f536a84feefc1ccf6113cc4a577a0c", func := "causeway/causewaylaw2.SessionSees", spec := "sessionSees", inPlace := ["internal/reflectlite.ValueOf", "(internal/reflectlite.Value).Type", "(internal/reflectlite.Value).IsNil", "internal/reflectlite.TypeOf", "(internal/reflectlite.Value).Elem", "(internal/reflectlite.Value).Set"], unfollowed := true, recurses := true, named := ["causeway/api.ErrBound", "causeway/api.ErrShape", "causeway/api.ErrHeld", "causeway/api.ErrWait", "causeway/api.ErrNone", "causeway/api.ErrFull", "causeway/api.ErrName", "causeway/api.ErrKind", "causeway/api.ErrOld", "errors.errorType", "causeway/api.ErrExist", "causeway/api.ErrText", "causeway/api.ErrSum"], plainKeys := false, apart := false, laid := [("errors.errorType", laid_errors_errorType), ("causeway/api.ErrText", laid_causeway_api_ErrText), ("causeway/api.ErrBound", laid_causeway_api_ErrBound), ("causeway/api.ErrShape", laid_causeway_api_ErrShape), ("causeway/api.ErrName", laid_causeway_api_ErrName), ("causeway/api.ErrNone", laid_causeway_api_ErrNone), ("causeway/api.ErrExist", laid_causeway_api_ErrExist), ("causeway/api.ErrFull", laid_causeway_api_ErrFull), ("causeway/api.ErrSum", laid_causeway_api_ErrSum), ("causeway/api.ErrOld", laid_causeway_api_ErrOld), ("causeway/api.ErrHeld", laid_causeway_api_ErrHeld), ("causeway/api.ErrWait", laid_causeway_api_ErrWait), ("causeway/api.ErrKind", laid_causeway_api_ErrKind)] }
def SessionSeesSaid : Prop := sessionSeesRow.holds Tryz.pinned (OpenSpec.ofChange sessionSeesSpec)

/-- ITS FALSE NEIGHBOUR: 'it returns false'. Refute it at one input. -/
def sessionSeesWrong : ChangeSpec := { name := "sessionSees", fn := fun _ => fun
  | [d1, d2, d3, d4] => { results := [.lit (.bool false)], args := [d1, d2, d3, d4] }
  | _ => none }
def SessionSeesWrongFalsely : Prop := sessionSeesRow.holds Tryz.pinned (OpenSpec.ofChange sessionSeesWrong)

/-- 'causewaylaw2.SessionSteps': WHATEVER THE INPUT: true; the input reads as it did. -/
def sessionStepsSpec : ChangeSpec := { name := "sessionSteps", fn := fun _ => fun
  | [d1, d2, d3] => { results := [.lit (.bool true)], args := [d1, d2, d3] }
  | _ => none }
def sessionStepsRow : OpenClaim := { program := "ytmkapocibaojdaagreatdoor", sum := "d7d6943e34b58f9e9b13b0f83a11834a62f536a84feefc1ccf6113cc4a577a0c", func := "causeway/causewaylaw2.SessionSteps", spec := "sessionSteps", inPlace := ["internal/reflectlite.ValueOf", "(internal/reflectlite.Value).Type", "(internal/reflectlite.Value).IsNil", "internal/reflectlite.TypeOf", "(internal/reflectlite.Value).Elem", "(internal/reflectlite.Value).Set"], unfollowed := true, recurses := true, named := ["causeway/api.ErrBound", "causeway/api.ErrShape", "causeway/api.ErrHeld", "causeway/api.ErrWait", "causeway/api.ErrNone", "causeway/api.ErrFull", "causeway/api.ErrName", "causeway/api.ErrKind", "causeway/api.ErrOld", "errors.errorType", "causeway/api.ErrText", "causeway/api.ErrExist", "causeway/api.ErrSum"], plainKeys := false, apart := false, laid := [("errors.errorType", laid_errors_errorType), ("causeway/api.ErrText", laid_causeway_api_ErrText), ("causeway/api.ErrBound", laid_causeway_api_ErrBound), ("causeway/api.ErrShape", laid_causeway_api_ErrShape), ("causeway/api.ErrName", laid_causeway_api_ErrName), ("causeway/api.ErrNone", laid_causeway_api_ErrNone), ("causeway/api.ErrExist", laid_causeway_api_ErrExist), ("causeway/api.ErrFull", laid_causeway_api_ErrFull), ("causeway/api.ErrSum", laid_causeway_api_ErrSum), ("causeway/api.ErrOld", laid_causeway_api_ErrOld), ("causeway/api.ErrHeld", laid_causeway_api_ErrHeld), ("causeway/api.ErrWait", laid_causeway_api_ErrWait), ("causeway/api.ErrKind", laid_causeway_api_ErrKind)] }
def SessionStepsSaid : Prop := sessionStepsRow.holds Tryz.pinned (OpenSpec.ofChange sessionStepsSpec)

/-- ITS FALSE NEIGHBOUR: 'it returns false'. Refute it at one input. -/
def sessionStepsWrong : ChangeSpec := { name := "sessionSteps", fn := fun _ => fun
  | [d1, d2, d3] => { results := [.lit (.bool false)], args := [d1, d2, d3] }
  | _ => none }
def SessionStepsWrongFalsely : Prop := sessionStepsRow.holds Tryz.pinned (OpenSpec.ofChange sessionStepsWrong)

/-- 'causewaylaw3.JudgeChecks': WHATEVER THE INPUT: true; the input reads as it did. -/
def judgeChecksSpec : ChangeSpec := { name := "judgeChecks", fn := fun _ => fun
  | [d1, d2, d3, d4] => { results := [.lit (.bool true)], args := [d1, d2, d3, d4] }
  | _ => none }
def judgeChecksRow : OpenClaim := { program := "ytmkapocibaojdaagreatdoor", sum := "d7d6943e34b58f9e9b13b0f83a11834a62f536a84feefc1ccf6113cc4a577a0c", func := "causeway/causewaylaw3.JudgeChecks", spec := "judgeChecks", inPlace := ["internal/reflectlite.ValueOf", "(internal/reflectlite.Value).Type", "(internal/reflectlite.Value).IsNil", "internal/reflectlite.TypeOf", "(internal/reflectlite.Value).Elem", "(internal/reflectlite.Value).Set"], unfollowed := true, recurses := true, named := ["causeway/api.ErrHeld", "causeway/api.ErrShape", "causeway/api.ErrBound", "causeway/api.ErrOld", "causeway/api.ErrSum", "causeway/api.ErrName", "causeway/api.ErrKind", "errors.errorType", "causeway/api.ErrText", "causeway/api.ErrNone", "causeway/api.ErrExist", "causeway/api.ErrFull", "causeway/api.ErrWait"], plainKeys := false, apart := false, laid := [("errors.errorType", laid_errors_errorType), ("causeway/api.ErrText", laid_causeway_api_ErrText), ("causeway/api.ErrBound", laid_causeway_api_ErrBound), ("causeway/api.ErrShape", laid_causeway_api_ErrShape), ("causeway/api.ErrName", laid_causeway_api_ErrName), ("causeway/api.ErrNone", laid_causeway_api_ErrNone), ("causeway/api.ErrExist", laid_causeway_api_ErrExist), ("causeway/api.ErrFull", laid_causeway_api_ErrFull), ("causeway/api.ErrSum", laid_causeway_api_ErrSum), ("causeway/api.ErrOld", laid_causeway_api_ErrOld), ("causeway/api.ErrHeld", laid_causeway_api_ErrHeld), ("causeway/api.ErrWait", laid_causeway_api_ErrWait), ("causeway/api.ErrKind", laid_causeway_api_ErrKind)] }
def JudgeChecksSaid : Prop := judgeChecksRow.holds Tryz.pinned (OpenSpec.ofChange judgeChecksSpec)

/-- ITS FALSE NEIGHBOUR: 'it returns false'. Refute it at one input. -/
def judgeChecksWrong : ChangeSpec := { name := "judgeChecks", fn := fun _ => fun
  | [d1, d2, d3, d4] => { results := [.lit (.bool false)], args := [d1, d2, d3, d4] }
  | _ => none }
def JudgeChecksWrongFalsely : Prop := judgeChecksRow.holds Tryz.pinned (OpenSpec.ofChange judgeChecksWrong)

/- THE SECOND FORM. 'bulk': how many values and letters a reading holds, each counted each time it is reached (what is shared counts as often as it is met; a slice's spare places count too). A statement '..UptoSaid' is the law's where the arguments, and the package variables that the reading takes, are together of bulk at most 1048576: NARROWER than '..Said'. Prove '..Said' where nothing that the law and all that it calls make is longer than what came in: it says more and counts as full. Else prove '..UptoSaid'. A law counts once. -/
mutual
def uptoBulk {H : Type} : DataW H → Nat
  | .lit (.string bytes) => bytes.length + 1
  | .lit _ => 1
  | .nil => 1
  | .ptr d => uptoBulk d + 1
  | .slice elems spare => uptoBulkAll elems + uptoBulkAll spare + 1
  | .agg parts => uptoBulkAll parts + 1
  | .iface _ d => uptoBulk d + 1
  | .map entries => uptoBulkEntries entries + 1
  | .held _ => 1
def uptoBulkAll {H : Type} : List (DataW H) → Nat
  | [] => 0
  | d :: r => uptoBulk d + uptoBulkAll r
def uptoBulkEntries {H : Type} : List (Lit × DataW H) → Nat
  | [] => 0
  | x :: r => uptoBulkEntry x + uptoBulkEntries r
def uptoBulkEntry {H : Type} : Lit × DataW H → Nat
  | (.string bytes, d) => bytes.length + uptoBulk d + 1
  | (_, d) => uptoBulk d + 1
 end
def uptoSmall : (H : Type) → List (DataW H) → Bool := fun _ ds => decide (uptoBulkAll ds ≤ 1048576)
def OpenSpec.upto (s : _root_.Go.ChangeSpec) : _root_.Go.OpenSpec := { _root_.Go.OpenSpec.ofChange s with cond := some uptoSmall }

/-- 'causewaylaw2.PlaceActs', WHERE WHAT IT READS IS OF BULK AT MOST 1048576: true; the input reads as it did. -/
def placeActsUptoRow : OpenClaim := { program := "ytmkapocibaojdaagreatdoor", sum := "d7d6943e34b58f9e9b13b0f83a11834a62f536a84feefc1ccf6113cc4a577a0c", func := "causeway/causewaylaw2.PlaceActs", spec := "placeActs", inPlace := ["internal/reflectlite.ValueOf", "(internal/reflectlite.Value).Type", "(internal/reflectlite.Value).IsNil", "internal/reflectlite.TypeOf", "(internal/reflectlite.Value).Elem", "(internal/reflectlite.Value).Set"], unfollowed := true, recurses := true, named := ["causeway/api.ErrBound", "causeway/api.ErrShape", "causeway/api.ErrWait", "causeway/api.ErrName", "causeway/api.ErrKind", "causeway/api.ErrOld", "causeway/api.ErrExist", "causeway/api.ErrText", "causeway/api.ErrNone", "causeway/api.ErrFull", "causeway/api.ErrSum", "causeway/api.ErrHeld", "errors.errorType"], plainKeys := false, apart := false, laid := [("errors.errorType", laid_errors_errorType), ("causeway/api.ErrText", laid_causeway_api_ErrText), ("causeway/api.ErrBound", laid_causeway_api_ErrBound), ("causeway/api.ErrShape", laid_causeway_api_ErrShape), ("causeway/api.ErrName", laid_causeway_api_ErrName), ("causeway/api.ErrNone", laid_causeway_api_ErrNone), ("causeway/api.ErrExist", laid_causeway_api_ErrExist), ("causeway/api.ErrFull", laid_causeway_api_ErrFull), ("causeway/api.ErrSum", laid_causeway_api_ErrSum), ("causeway/api.ErrOld", laid_causeway_api_ErrOld), ("causeway/api.ErrHeld", laid_causeway_api_ErrHeld), ("causeway/api.ErrWait", laid_causeway_api_ErrWait), ("causeway/api.ErrKind", laid_causeway_api_ErrKind)], narrowed := true }
def PlaceActsUptoSaid : Prop := placeActsUptoRow.holds Tryz.pinned (OpenSpec.upto placeActsSpec)

/-- 'causewaylaw2.PlaceWhole', WHERE WHAT IT READS IS OF BULK AT MOST 1048576: true; the input reads as it did. -/
def placeWholeUptoRow : OpenClaim := { program := "ytmkapocibaojdaagreatdoor", sum := "d7d6943e34b58f9e9b13b0f83a11834a62f536a84feefc1ccf6113cc4a577a0c", func := "causeway/causewaylaw2.PlaceWhole", spec := "placeWhole", inPlace := ["internal/reflectlite.ValueOf", "(internal/reflectlite.Value).Type", "(internal/reflectlite.Value).IsNil", "internal/reflectlite.TypeOf", "(internal/reflectlite.Value).Elem", "(internal/reflectlite.Value).Set"], unfollowed := true, recurses := true, named := ["causeway/api.ErrBound", "causeway/api.ErrShape", "causeway/api.ErrWait", "causeway/api.ErrName", "causeway/api.ErrKind", "causeway/api.ErrOld", "causeway/api.ErrExist", "causeway/api.ErrFull", "errors.errorType"], plainKeys := false, apart := false, laid := [("errors.errorType", laid_errors_errorType), ("causeway/api.ErrBound", laid_causeway_api_ErrBound), ("causeway/api.ErrShape", laid_causeway_api_ErrShape), ("causeway/api.ErrName", laid_causeway_api_ErrName), ("causeway/api.ErrExist", laid_causeway_api_ErrExist), ("causeway/api.ErrFull", laid_causeway_api_ErrFull), ("causeway/api.ErrOld", laid_causeway_api_ErrOld), ("causeway/api.ErrWait", laid_causeway_api_ErrWait), ("causeway/api.ErrKind", laid_causeway_api_ErrKind)], narrowed := true }
def PlaceWholeUptoSaid : Prop := placeWholeUptoRow.holds Tryz.pinned (OpenSpec.upto placeWholeSpec)

/-- 'causewaylaw2.PlaceCause', WHERE WHAT IT READS IS OF BULK AT MOST 1048576: true; the input reads as it did. -/
def placeCauseUptoRow : OpenClaim := { program := "ytmkapocibaojdaagreatdoor", sum := "d7d6943e34b58f9e9b13b0f83a11834a62f536a84feefc1ccf6113cc4a577a0c", func := "causeway/causewaylaw2.PlaceCause", spec := "placeCause", inPlace := ["internal/reflectlite.ValueOf", "(internal/reflectlite.Value).Type", "(internal/reflectlite.Value).IsNil", "internal/reflectlite.TypeOf", "(internal/reflectlite.Value).Elem", "(internal/reflectlite.Value).Set"], unfollowed := true, recurses := true, named := ["causeway/api.ErrBound", "causeway/api.ErrShape", "causeway/api.ErrWait", "causeway/api.ErrName", "causeway/api.ErrKind", "causeway/api.ErrOld", "causeway/api.ErrExist", "causeway/api.ErrFull", "errors.errorType"], plainKeys := false, apart := false, laid := [("errors.errorType", laid_errors_errorType), ("causeway/api.ErrBound", laid_causeway_api_ErrBound), ("causeway/api.ErrShape", laid_causeway_api_ErrShape), ("causeway/api.ErrName", laid_causeway_api_ErrName), ("causeway/api.ErrExist", laid_causeway_api_ErrExist), ("causeway/api.ErrFull", laid_causeway_api_ErrFull), ("causeway/api.ErrOld", laid_causeway_api_ErrOld), ("causeway/api.ErrWait", laid_causeway_api_ErrWait), ("causeway/api.ErrKind", laid_causeway_api_ErrKind)], narrowed := true }
def PlaceCauseUptoSaid : Prop := placeCauseUptoRow.holds Tryz.pinned (OpenSpec.upto placeCauseSpec)

/-- 'causewaylaw2.PlaceTwo', WHERE WHAT IT READS IS OF BULK AT MOST 1048576: true; the input reads as it did. -/
def placeTwoUptoRow : OpenClaim := { program := "ytmkapocibaojdaagreatdoor", sum := "d7d6943e34b58f9e9b13b0f83a11834a62f536a84feefc1ccf6113cc4a577a0c", func := "causeway/causewaylaw2.PlaceTwo", spec := "placeTwo", inPlace := ["internal/reflectlite.ValueOf", "(internal/reflectlite.Value).Type", "(internal/reflectlite.Value).IsNil", "internal/reflectlite.TypeOf", "(internal/reflectlite.Value).Elem", "(internal/reflectlite.Value).Set"], unfollowed := true, recurses := true, named := ["causeway/api.ErrBound", "causeway/api.ErrShape", "causeway/api.ErrWait", "causeway/api.ErrName", "causeway/api.ErrKind", "causeway/api.ErrOld", "causeway/api.ErrExist", "causeway/api.ErrFull", "errors.errorType", "causeway/api.ErrText", "causeway/api.ErrNone", "causeway/api.ErrSum", "causeway/api.ErrHeld"], plainKeys := false, apart := false, laid := [("errors.errorType", laid_errors_errorType), ("causeway/api.ErrText", laid_causeway_api_ErrText), ("causeway/api.ErrBound", laid_causeway_api_ErrBound), ("causeway/api.ErrShape", laid_causeway_api_ErrShape), ("causeway/api.ErrName", laid_causeway_api_ErrName), ("causeway/api.ErrNone", laid_causeway_api_ErrNone), ("causeway/api.ErrExist", laid_causeway_api_ErrExist), ("causeway/api.ErrFull", laid_causeway_api_ErrFull), ("causeway/api.ErrSum", laid_causeway_api_ErrSum), ("causeway/api.ErrOld", laid_causeway_api_ErrOld), ("causeway/api.ErrHeld", laid_causeway_api_ErrHeld), ("causeway/api.ErrWait", laid_causeway_api_ErrWait), ("causeway/api.ErrKind", laid_causeway_api_ErrKind)], narrowed := true }
def PlaceTwoUptoSaid : Prop := placeTwoUptoRow.holds Tryz.pinned (OpenSpec.upto placeTwoSpec)

/-- 'causewaylaw2.SessionKeeps', WHERE WHAT IT READS IS OF BULK AT MOST 1048576: true; the input reads as it did. -/
def sessionKeepsUptoRow : OpenClaim := { program := "ytmkapocibaojdaagreatdoor", sum := "d7d6943e34b58f9e9b13b0f83a11834a62f536a84feefc1ccf6113cc4a577a0c", func := "causeway/causewaylaw2.SessionKeeps", spec := "sessionKeeps", inPlace := ["internal/reflectlite.ValueOf", "(internal/reflectlite.Value).Type", "(internal/reflectlite.Value).IsNil", "internal/reflectlite.TypeOf", "(internal/reflectlite.Value).Elem", "(internal/reflectlite.Value).Set"], unfollowed := true, recurses := true, named := ["causeway/api.ErrBound", "causeway/api.ErrShape", "causeway/api.ErrHeld", "causeway/api.ErrWait", "causeway/api.ErrNone", "causeway/api.ErrFull", "causeway/api.ErrName", "causeway/api.ErrKind", "causeway/api.ErrOld", "errors.errorType", "causeway/api.ErrExist", "causeway/api.ErrText", "causeway/api.ErrSum"], plainKeys := false, apart := false, laid := [("errors.errorType", laid_errors_errorType), ("causeway/api.ErrText", laid_causeway_api_ErrText), ("causeway/api.ErrBound", laid_causeway_api_ErrBound), ("causeway/api.ErrShape", laid_causeway_api_ErrShape), ("causeway/api.ErrName", laid_causeway_api_ErrName), ("causeway/api.ErrNone", laid_causeway_api_ErrNone), ("causeway/api.ErrExist", laid_causeway_api_ErrExist), ("causeway/api.ErrFull", laid_causeway_api_ErrFull), ("causeway/api.ErrSum", laid_causeway_api_ErrSum), ("causeway/api.ErrOld", laid_causeway_api_ErrOld), ("causeway/api.ErrHeld", laid_causeway_api_ErrHeld), ("causeway/api.ErrWait", laid_causeway_api_ErrWait), ("causeway/api.ErrKind", laid_causeway_api_ErrKind)], narrowed := true }
def SessionKeepsUptoSaid : Prop := sessionKeepsUptoRow.holds Tryz.pinned (OpenSpec.upto sessionKeepsSpec)

/-- 'causewaylaw2.SessionSees', WHERE WHAT IT READS IS OF BULK AT MOST 1048576: true; the input reads as it did. -/
def sessionSeesUptoRow : OpenClaim := { program := "ytmkapocibaojdaagreatdoor", sum := "d7d6943e34b58f9e9b13b0f83a11834a62f536a84feefc1ccf6113cc4a577a0c", func := "causeway/causewaylaw2.SessionSees", spec := "sessionSees", inPlace := ["internal/reflectlite.ValueOf", "(internal/reflectlite.Value).Type", "(internal/reflectlite.Value).IsNil", "internal/reflectlite.TypeOf", "(internal/reflectlite.Value).Elem", "(internal/reflectlite.Value).Set"], unfollowed := true, recurses := true, named := ["causeway/api.ErrBound", "causeway/api.ErrShape", "causeway/api.ErrHeld", "causeway/api.ErrWait", "causeway/api.ErrNone", "causeway/api.ErrFull", "causeway/api.ErrName", "causeway/api.ErrKind", "causeway/api.ErrOld", "errors.errorType", "causeway/api.ErrExist", "causeway/api.ErrText", "causeway/api.ErrSum"], plainKeys := false, apart := false, laid := [("errors.errorType", laid_errors_errorType), ("causeway/api.ErrText", laid_causeway_api_ErrText), ("causeway/api.ErrBound", laid_causeway_api_ErrBound), ("causeway/api.ErrShape", laid_causeway_api_ErrShape), ("causeway/api.ErrName", laid_causeway_api_ErrName), ("causeway/api.ErrNone", laid_causeway_api_ErrNone), ("causeway/api.ErrExist", laid_causeway_api_ErrExist), ("causeway/api.ErrFull", laid_causeway_api_ErrFull), ("causeway/api.ErrSum", laid_causeway_api_ErrSum), ("causeway/api.ErrOld", laid_causeway_api_ErrOld), ("causeway/api.ErrHeld", laid_causeway_api_ErrHeld), ("causeway/api.ErrWait", laid_causeway_api_ErrWait), ("causeway/api.ErrKind", laid_causeway_api_ErrKind)], narrowed := true }
def SessionSeesUptoSaid : Prop := sessionSeesUptoRow.holds Tryz.pinned (OpenSpec.upto sessionSeesSpec)

/-- 'causewaylaw2.SessionSteps', WHERE WHAT IT READS IS OF BULK AT MOST 1048576: true; the input reads as it did. -/
def sessionStepsUptoRow : OpenClaim := { program := "ytmkapocibaojdaagreatdoor", sum := "d7d6943e34b58f9e9b13b0f83a11834a62f536a84feefc1ccf6113cc4a577a0c", func := "causeway/causewaylaw2.SessionSteps", spec := "sessionSteps", inPlace := ["internal/reflectlite.ValueOf", "(internal/reflectlite.Value).Type", "(internal/reflectlite.Value).IsNil", "internal/reflectlite.TypeOf", "(internal/reflectlite.Value).Elem", "(internal/reflectlite.Value).Set"], unfollowed := true, recurses := true, named := ["causeway/api.ErrBound", "causeway/api.ErrShape", "causeway/api.ErrHeld", "causeway/api.ErrWait", "causeway/api.ErrNone", "causeway/api.ErrFull", "causeway/api.ErrName", "causeway/api.ErrKind", "causeway/api.ErrOld", "errors.errorType", "causeway/api.ErrText", "causeway/api.ErrExist", "causeway/api.ErrSum"], plainKeys := false, apart := false, laid := [("errors.errorType", laid_errors_errorType), ("causeway/api.ErrText", laid_causeway_api_ErrText), ("causeway/api.ErrBound", laid_causeway_api_ErrBound), ("causeway/api.ErrShape", laid_causeway_api_ErrShape), ("causeway/api.ErrName", laid_causeway_api_ErrName), ("causeway/api.ErrNone", laid_causeway_api_ErrNone), ("causeway/api.ErrExist", laid_causeway_api_ErrExist), ("causeway/api.ErrFull", laid_causeway_api_ErrFull), ("causeway/api.ErrSum", laid_causeway_api_ErrSum), ("causeway/api.ErrOld", laid_causeway_api_ErrOld), ("causeway/api.ErrHeld", laid_causeway_api_ErrHeld), ("causeway/api.ErrWait", laid_causeway_api_ErrWait), ("causeway/api.ErrKind", laid_causeway_api_ErrKind)], narrowed := true }
def SessionStepsUptoSaid : Prop := sessionStepsUptoRow.holds Tryz.pinned (OpenSpec.upto sessionStepsSpec)

/-- 'causewaylaw3.JudgeChecks', WHERE WHAT IT READS IS OF BULK AT MOST 1048576: true; the input reads as it did. -/
def judgeChecksUptoRow : OpenClaim := { program := "ytmkapocibaojdaagreatdoor", sum := "d7d6943e34b58f9e9b13b0f83a11834a62f536a84feefc1ccf6113cc4a577a0c", func := "causeway/causewaylaw3.JudgeChecks", spec := "judgeChecks", inPlace := ["internal/reflectlite.ValueOf", "(internal/reflectlite.Value).Type", "(internal/reflectlite.Value).IsNil", "internal/reflectlite.TypeOf", "(internal/reflectlite.Value).Elem", "(internal/reflectlite.Value).Set"], unfollowed := true, recurses := true, named := ["causeway/api.ErrHeld", "causeway/api.ErrShape", "causeway/api.ErrBound", "causeway/api.ErrOld", "causeway/api.ErrSum", "causeway/api.ErrName", "causeway/api.ErrKind", "errors.errorType", "causeway/api.ErrText", "causeway/api.ErrNone", "causeway/api.ErrExist", "causeway/api.ErrFull", "causeway/api.ErrWait"], plainKeys := false, apart := false, laid := [("errors.errorType", laid_errors_errorType), ("causeway/api.ErrText", laid_causeway_api_ErrText), ("causeway/api.ErrBound", laid_causeway_api_ErrBound), ("causeway/api.ErrShape", laid_causeway_api_ErrShape), ("causeway/api.ErrName", laid_causeway_api_ErrName), ("causeway/api.ErrNone", laid_causeway_api_ErrNone), ("causeway/api.ErrExist", laid_causeway_api_ErrExist), ("causeway/api.ErrFull", laid_causeway_api_ErrFull), ("causeway/api.ErrSum", laid_causeway_api_ErrSum), ("causeway/api.ErrOld", laid_causeway_api_ErrOld), ("causeway/api.ErrHeld", laid_causeway_api_ErrHeld), ("causeway/api.ErrWait", laid_causeway_api_ErrWait), ("causeway/api.ErrKind", laid_causeway_api_ErrKind)], narrowed := true }
def JudgeChecksUptoSaid : Prop := judgeChecksUptoRow.holds Tryz.pinned (OpenSpec.upto judgeChecksSpec)

end Rows
end Go.Proofs.YtmkapocibaojdaaGreatDoor
