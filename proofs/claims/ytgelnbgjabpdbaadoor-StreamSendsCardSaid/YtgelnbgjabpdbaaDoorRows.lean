/-
  NARROWER THAN 'FOR EVERY INPUT', by the rows' own cells (each row's printed sentence says how): StreamComes: laid · StreamLossy: laid · StreamHears: laid · StreamSends: laid.
  DERIVED. THE GIVEN ROWS OF THIS SEAT. 4 by the template 'for every input the law returns true; each argument reads behind the call as it read before'; 0 by the template 'total and deterministic' (their statements: YtgelnbgjabpdbaaDoorTotals.lean).
  GIVEN WITH THE SEED: the statements are not yours to turn. If you find one false, say at which input.
  Laid BY PROGRAM, IN A SANDBOX (cutbox-rows.mjs): the forced cells as the released guide's own fill.sh prints them over the translation 7e912195b1fc8e1d… (all of the seat's roots in one cut). By AI agents, Wed Nov 11 2026. No macro, syntax, notation, axiom, sorry.
-/
import Derived.Test.YtgelnbgjabpdbaaDoorChecked
import GoSem.Claim
import GoSem.ClaimJoined
import GoSem.ClaimMapViews
import Derived.JoinedTies
import Derived.KernelRfl
namespace Go.Proofs.YtgelnbgjabpdbaaDoor
/- THE CELL 'sum', in the pinned program and in every row, IS THE sha256 OF THE DUMP (.gsa) THAT YtgelnbgjabpdbaaDoorProg.lean LOADS. Nothing in Lean hashes anything: it is a label: what it is worth is what the hold of that sum in a sandbox is worth. -/
noncomputable def Tryd.pinned : Pinned := { name := "ytgelnbgjabpdbaadoor", sum := "7e912195b1fc8e1d1ab92b58b7fe9dd971c3a1dd1f5ad739f327d38aaba1defc", checked := Tryd.checked }
namespace Rows
def none {H : Type} : Left H := { results := [], args := [] }

/- WHAT THE LISTED PACKAGE-LEVEL VARIABLES READ AS WHEN THE CALL BEGINS. Each datum BY PROGRAM (the guide's laid-datum.mjs) off the statement by which the dump's own 'gosem.cut.vars' lays the variable. In a bare row this is a premise. The card (YtgelnbgjabpdbaaDoorCards.lean) ties it to the program's text. -/
def laid_causeway_api_ErrBound {H : Type} : DataW H := .iface "*errors.errorString" (.ptr (.agg [.lit (.string [99, 97, 117, 115, 101, 119, 97, 121, 58, 32, 98, 111, 117, 110, 100])]))
def laid_causeway_api_ErrShape {H : Type} : DataW H := .iface "*errors.errorString" (.ptr (.agg [.lit (.string [99, 97, 117, 115, 101, 119, 97, 121, 58, 32, 115, 104, 97, 112, 101])]))
def laid_causeway_api_ErrFull {H : Type} : DataW H := .iface "*errors.errorString" (.ptr (.agg [.lit (.string [99, 97, 117, 115, 101, 119, 97, 121, 58, 32, 102, 117, 108, 108])]))
def laid_causeway_api_ErrOld {H : Type} : DataW H := .iface "*errors.errorString" (.ptr (.agg [.lit (.string [99, 97, 117, 115, 101, 119, 97, 121, 58, 32, 111, 108, 100])]))
def laid_errors_errorType {H : Type} : DataW H := .iface "internal/reflectlite.rtype" (.agg [.ptr (.lit (.string [101, 114, 114, 111, 114]))])
def laid_causeway_api_ErrText {H : Type} : DataW H := .iface "*errors.errorString" (.ptr (.agg [.lit (.string [99, 97, 117, 115, 101, 119, 97, 121, 58, 32, 116, 101, 120, 116])]))
def laid_causeway_api_ErrName {H : Type} : DataW H := .iface "*errors.errorString" (.ptr (.agg [.lit (.string [99, 97, 117, 115, 101, 119, 97, 121, 58, 32, 110, 97, 109, 101])]))
def laid_causeway_api_ErrNone {H : Type} : DataW H := .iface "*errors.errorString" (.ptr (.agg [.lit (.string [99, 97, 117, 115, 101, 119, 97, 121, 58, 32, 110, 111, 110, 101])]))
def laid_causeway_api_ErrExist {H : Type} : DataW H := .iface "*errors.errorString" (.ptr (.agg [.lit (.string [99, 97, 117, 115, 101, 119, 97, 121, 58, 32, 101, 120, 105, 115, 116])]))
def laid_causeway_api_ErrSum {H : Type} : DataW H := .iface "*errors.errorString" (.ptr (.agg [.lit (.string [99, 97, 117, 115, 101, 119, 97, 121, 58, 32, 115, 117, 109])]))
def laid_causeway_api_ErrHeld {H : Type} : DataW H := .iface "*errors.errorString" (.ptr (.agg [.lit (.string [99, 97, 117, 115, 101, 119, 97, 121, 58, 32, 104, 101, 108, 100])]))
def laid_causeway_api_ErrWait {H : Type} : DataW H := .iface "*errors.errorString" (.ptr (.agg [.lit (.string [99, 97, 117, 115, 101, 119, 97, 121, 58, 32, 119, 97, 105, 116])]))
def laid_causeway_api_ErrKind {H : Type} : DataW H := .iface "*errors.errorString" (.ptr (.agg [.lit (.string [99, 97, 117, 115, 101, 119, 97, 121, 58, 32, 107, 105, 110, 100])]))

/-- 'causewaylaw2.StreamComes': WHATEVER THE INPUT: true; the input reads as it did. -/
def streamComesSpec : ChangeSpec := { name := "streamComes", fn := fun _ => fun
  | [d1, d2] => { results := [.lit (.bool true)], args := [d1, d2] }
  | _ => none }
def streamComesRow : OpenClaim := { program := "ytgelnbgjabpdbaadoor", sum := "7e912195b1fc8e1d1ab92b58b7fe9dd971c3a1dd1f5ad739f327d38aaba1defc", func := "causeway/causewaylaw2.StreamComes", spec := "streamComes", unfollowed := true, recurses := true, named := ["causeway/api.ErrBound", "causeway/api.ErrShape", "causeway/api.ErrOld", "causeway/api.ErrFull"], apart := false, laid := [("causeway/api.ErrBound", laid_causeway_api_ErrBound), ("causeway/api.ErrShape", laid_causeway_api_ErrShape), ("causeway/api.ErrFull", laid_causeway_api_ErrFull), ("causeway/api.ErrOld", laid_causeway_api_ErrOld)] }
def StreamComesSaid : Prop := streamComesRow.holds Tryd.pinned (OpenSpec.ofChange streamComesSpec)

/-- ITS FALSE NEIGHBOUR: 'it returns false'. Refute it at one input. -/
def streamComesWrong : ChangeSpec := { name := "streamComes", fn := fun _ => fun
  | [d1, d2] => { results := [.lit (.bool false)], args := [d1, d2] }
  | _ => none }
def StreamComesWrongFalsely : Prop := streamComesRow.holds Tryd.pinned (OpenSpec.ofChange streamComesWrong)

/-- 'causewaylaw2.StreamLossy': WHATEVER THE INPUT: true; the input reads as it did. -/
def streamLossySpec : ChangeSpec := { name := "streamLossy", fn := fun _ => fun
  | [d1, d2, d3] => { results := [.lit (.bool true)], args := [d1, d2, d3] }
  | _ => none }
def streamLossyRow : OpenClaim := { program := "ytgelnbgjabpdbaadoor", sum := "7e912195b1fc8e1d1ab92b58b7fe9dd971c3a1dd1f5ad739f327d38aaba1defc", func := "causeway/causewaylaw2.StreamLossy", spec := "streamLossy", unfollowed := true, recurses := true, named := ["causeway/api.ErrBound", "causeway/api.ErrShape", "causeway/api.ErrOld", "causeway/api.ErrFull"], apart := false, laid := [("causeway/api.ErrBound", laid_causeway_api_ErrBound), ("causeway/api.ErrShape", laid_causeway_api_ErrShape), ("causeway/api.ErrFull", laid_causeway_api_ErrFull), ("causeway/api.ErrOld", laid_causeway_api_ErrOld)] }
def StreamLossySaid : Prop := streamLossyRow.holds Tryd.pinned (OpenSpec.ofChange streamLossySpec)

/-- ITS FALSE NEIGHBOUR: 'it returns false'. Refute it at one input. -/
def streamLossyWrong : ChangeSpec := { name := "streamLossy", fn := fun _ => fun
  | [d1, d2, d3] => { results := [.lit (.bool false)], args := [d1, d2, d3] }
  | _ => none }
def StreamLossyWrongFalsely : Prop := streamLossyRow.holds Tryd.pinned (OpenSpec.ofChange streamLossyWrong)

/-- 'causewaylaw2.StreamHears': WHATEVER THE INPUT: true; the input reads as it did. -/
def streamHearsSpec : ChangeSpec := { name := "streamHears", fn := fun _ => fun
  | [d1, d2, d3, d4] => { results := [.lit (.bool true)], args := [d1, d2, d3, d4] }
  | _ => none }
def streamHearsRow : OpenClaim := { program := "ytgelnbgjabpdbaadoor", sum := "7e912195b1fc8e1d1ab92b58b7fe9dd971c3a1dd1f5ad739f327d38aaba1defc", func := "causeway/causewaylaw2.StreamHears", spec := "streamHears", inPlace := ["internal/reflectlite.ValueOf", "(internal/reflectlite.Value).Type", "(internal/reflectlite.Value).IsNil", "internal/reflectlite.TypeOf", "(internal/reflectlite.Value).Elem", "(internal/reflectlite.Value).Set"], unfollowed := true, recurses := true, named := ["causeway/api.ErrBound", "causeway/api.ErrShape", "causeway/api.ErrOld", "causeway/api.ErrFull", "causeway/api.ErrText", "causeway/api.ErrName", "causeway/api.ErrNone", "causeway/api.ErrExist", "causeway/api.ErrSum", "causeway/api.ErrHeld", "causeway/api.ErrWait", "causeway/api.ErrKind", "errors.errorType"], apart := false, laid := [("errors.errorType", laid_errors_errorType), ("causeway/api.ErrText", laid_causeway_api_ErrText), ("causeway/api.ErrBound", laid_causeway_api_ErrBound), ("causeway/api.ErrShape", laid_causeway_api_ErrShape), ("causeway/api.ErrName", laid_causeway_api_ErrName), ("causeway/api.ErrNone", laid_causeway_api_ErrNone), ("causeway/api.ErrExist", laid_causeway_api_ErrExist), ("causeway/api.ErrFull", laid_causeway_api_ErrFull), ("causeway/api.ErrSum", laid_causeway_api_ErrSum), ("causeway/api.ErrOld", laid_causeway_api_ErrOld), ("causeway/api.ErrHeld", laid_causeway_api_ErrHeld), ("causeway/api.ErrWait", laid_causeway_api_ErrWait), ("causeway/api.ErrKind", laid_causeway_api_ErrKind)] }
def StreamHearsSaid : Prop := streamHearsRow.holds Tryd.pinned (OpenSpec.ofChange streamHearsSpec)

/-- ITS FALSE NEIGHBOUR: 'it returns false'. Refute it at one input. -/
def streamHearsWrong : ChangeSpec := { name := "streamHears", fn := fun _ => fun
  | [d1, d2, d3, d4] => { results := [.lit (.bool false)], args := [d1, d2, d3, d4] }
  | _ => none }
def StreamHearsWrongFalsely : Prop := streamHearsRow.holds Tryd.pinned (OpenSpec.ofChange streamHearsWrong)

/-- 'causewaylaw2.StreamSends': WHATEVER THE INPUT: true; the input reads as it did. -/
def streamSendsSpec : ChangeSpec := { name := "streamSends", fn := fun _ => fun
  | [d1, d2, d3, d4] => { results := [.lit (.bool true)], args := [d1, d2, d3, d4] }
  | _ => none }
def streamSendsRow : OpenClaim := { program := "ytgelnbgjabpdbaadoor", sum := "7e912195b1fc8e1d1ab92b58b7fe9dd971c3a1dd1f5ad739f327d38aaba1defc", func := "causeway/causewaylaw2.StreamSends", spec := "streamSends", inPlace := ["internal/reflectlite.ValueOf", "(internal/reflectlite.Value).Type", "(internal/reflectlite.Value).IsNil", "internal/reflectlite.TypeOf", "(internal/reflectlite.Value).Elem", "(internal/reflectlite.Value).Set"], unfollowed := true, recurses := true, named := ["causeway/api.ErrBound", "causeway/api.ErrShape", "causeway/api.ErrOld", "causeway/api.ErrText", "causeway/api.ErrName", "causeway/api.ErrNone", "causeway/api.ErrExist", "causeway/api.ErrFull", "causeway/api.ErrSum", "causeway/api.ErrHeld", "causeway/api.ErrWait", "causeway/api.ErrKind", "errors.errorType"], apart := false, laid := [("errors.errorType", laid_errors_errorType), ("causeway/api.ErrText", laid_causeway_api_ErrText), ("causeway/api.ErrBound", laid_causeway_api_ErrBound), ("causeway/api.ErrShape", laid_causeway_api_ErrShape), ("causeway/api.ErrName", laid_causeway_api_ErrName), ("causeway/api.ErrNone", laid_causeway_api_ErrNone), ("causeway/api.ErrExist", laid_causeway_api_ErrExist), ("causeway/api.ErrFull", laid_causeway_api_ErrFull), ("causeway/api.ErrSum", laid_causeway_api_ErrSum), ("causeway/api.ErrOld", laid_causeway_api_ErrOld), ("causeway/api.ErrHeld", laid_causeway_api_ErrHeld), ("causeway/api.ErrWait", laid_causeway_api_ErrWait), ("causeway/api.ErrKind", laid_causeway_api_ErrKind)] }
def StreamSendsSaid : Prop := streamSendsRow.holds Tryd.pinned (OpenSpec.ofChange streamSendsSpec)

/-- ITS FALSE NEIGHBOUR: 'it returns false'. Refute it at one input. -/
def streamSendsWrong : ChangeSpec := { name := "streamSends", fn := fun _ => fun
  | [d1, d2, d3, d4] => { results := [.lit (.bool false)], args := [d1, d2, d3, d4] }
  | _ => none }
def StreamSendsWrongFalsely : Prop := streamSendsRow.holds Tryd.pinned (OpenSpec.ofChange streamSendsWrong)

/- THE SECOND FORM. 'bulk': how many values and letters a reading holds, each counted each time it is reached (what is shared counts as often as it is met; a slice's spare places count too). A statement '..UptoSaid' is the law's where the arguments, and the package variables that the reading takes, are together of bulk at most 1048576: NARROWER than '..Said'. Prove '..Said' where nothing that the law and all that it calls make is longer than what came in: it says more and counts as full. Else prove '..UptoSaid'. A law counts once. -/
mutual
def uptoBulk {H : Type} : DataW H → Nat
  | .lit (.string bytes) => bytes.length + 1
  | .lit _ => 1
  | .nil => 1
  | .ptr d => uptoBulk d + 1
  | .slice elems spare => uptoBulkAll elems + uptoBulkAll spare + 1
  | .agg parts => uptoBulkAll parts + 1
  | .iface _ d => uptoBulk d + 1
  | .map entries => uptoBulkEntries entries + 1
  | .held _ => 1
def uptoBulkAll {H : Type} : List (DataW H) → Nat
  | [] => 0
  | d :: r => uptoBulk d + uptoBulkAll r
def uptoBulkEntries {H : Type} : List (Lit × DataW H) → Nat
  | [] => 0
  | x :: r => uptoBulkEntry x + uptoBulkEntries r
def uptoBulkEntry {H : Type} : Lit × DataW H → Nat
  | (.string bytes, d) => bytes.length + uptoBulk d + 1
  | (_, d) => uptoBulk d + 1
 end
def uptoSmall : (H : Type) → List (DataW H) → Bool := fun _ ds => decide (uptoBulkAll ds ≤ 1048576)
def OpenSpec.upto (s : _root_.Go.ChangeSpec) : _root_.Go.OpenSpec := { _root_.Go.OpenSpec.ofChange s with cond := some uptoSmall }

/-- 'causewaylaw2.StreamComes', WHERE WHAT IT READS IS OF BULK AT MOST 1048576: true; the input reads as it did. -/
def streamComesUptoRow : OpenClaim := { program := "ytgelnbgjabpdbaadoor", sum := "7e912195b1fc8e1d1ab92b58b7fe9dd971c3a1dd1f5ad739f327d38aaba1defc", func := "causeway/causewaylaw2.StreamComes", spec := "streamComes", unfollowed := true, recurses := true, named := ["causeway/api.ErrBound", "causeway/api.ErrShape", "causeway/api.ErrOld", "causeway/api.ErrFull"], apart := false, laid := [("causeway/api.ErrBound", laid_causeway_api_ErrBound), ("causeway/api.ErrShape", laid_causeway_api_ErrShape), ("causeway/api.ErrFull", laid_causeway_api_ErrFull), ("causeway/api.ErrOld", laid_causeway_api_ErrOld)], narrowed := true }
def StreamComesUptoSaid : Prop := streamComesUptoRow.holds Tryd.pinned (OpenSpec.upto streamComesSpec)

/-- 'causewaylaw2.StreamLossy', WHERE WHAT IT READS IS OF BULK AT MOST 1048576: true; the input reads as it did. -/
def streamLossyUptoRow : OpenClaim := { program := "ytgelnbgjabpdbaadoor", sum := "7e912195b1fc8e1d1ab92b58b7fe9dd971c3a1dd1f5ad739f327d38aaba1defc", func := "causeway/causewaylaw2.StreamLossy", spec := "streamLossy", unfollowed := true, recurses := true, named := ["causeway/api.ErrBound", "causeway/api.ErrShape", "causeway/api.ErrOld", "causeway/api.ErrFull"], apart := false, laid := [("causeway/api.ErrBound", laid_causeway_api_ErrBound), ("causeway/api.ErrShape", laid_causeway_api_ErrShape), ("causeway/api.ErrFull", laid_causeway_api_ErrFull), ("causeway/api.ErrOld", laid_causeway_api_ErrOld)], narrowed := true }
def StreamLossyUptoSaid : Prop := streamLossyUptoRow.holds Tryd.pinned (OpenSpec.upto streamLossySpec)

/-- 'causewaylaw2.StreamHears', WHERE WHAT IT READS IS OF BULK AT MOST 1048576: true; the input reads as it did. -/
def streamHearsUptoRow : OpenClaim := { program := "ytgelnbgjabpdbaadoor", sum := "7e912195b1fc8e1d1ab92b58b7fe9dd971c3a1dd1f5ad739f327d38aaba1defc", func := "causeway/causewaylaw2.StreamHears", spec := "streamHears", inPlace := ["internal/reflectlite.ValueOf", "(internal/reflectlite.Value).Type", "(internal/reflectlite.Value).IsNil", "internal/reflectlite.TypeOf", "(internal/reflectlite.Value).Elem", "(internal/reflectlite.Value).Set"], unfollowed := true, recurses := true, named := ["causeway/api.ErrBound", "causeway/api.ErrShape", "causeway/api.ErrOld", "causeway/api.ErrFull", "causeway/api.ErrText", "causeway/api.ErrName", "causeway/api.ErrNone", "causeway/api.ErrExist", "causeway/api.ErrSum", "causeway/api.ErrHeld", "causeway/api.ErrWait", "causeway/api.ErrKind", "errors.errorType"], apart := false, laid := [("errors.errorType", laid_errors_errorType), ("causeway/api.ErrText", laid_causeway_api_ErrText), ("causeway/api.ErrBound", laid_causeway_api_ErrBound), ("causeway/api.ErrShape", laid_causeway_api_ErrShape), ("causeway/api.ErrName", laid_causeway_api_ErrName), ("causeway/api.ErrNone", laid_causeway_api_ErrNone), ("causeway/api.ErrExist", laid_causeway_api_ErrExist), ("causeway/api.ErrFull", laid_causeway_api_ErrFull), ("causeway/api.ErrSum", laid_causeway_api_ErrSum), ("causeway/api.ErrOld", laid_causeway_api_ErrOld), ("causeway/api.ErrHeld", laid_causeway_api_ErrHeld), ("causeway/api.ErrWait", laid_causeway_api_ErrWait), ("causeway/api.ErrKind", laid_causeway_api_ErrKind)], narrowed := true }
def StreamHearsUptoSaid : Prop := streamHearsUptoRow.holds Tryd.pinned (OpenSpec.upto streamHearsSpec)

/-- 'causewaylaw2.StreamSends', WHERE WHAT IT READS IS OF BULK AT MOST 1048576: true; the input reads as it did. -/
def streamSendsUptoRow : OpenClaim := { program := "ytgelnbgjabpdbaadoor", sum := "7e912195b1fc8e1d1ab92b58b7fe9dd971c3a1dd1f5ad739f327d38aaba1defc", func := "causeway/causewaylaw2.StreamSends", spec := "streamSends", inPlace := ["internal/reflectlite.ValueOf", "(internal/reflectlite.Value).Type", "(internal/reflectlite.Value).IsNil", "internal/reflectlite.TypeOf", "(internal/reflectlite.Value).Elem", "(internal/reflectlite.Value).Set"], unfollowed := true, recurses := true, named := ["causeway/api.ErrBound", "causeway/api.ErrShape", "causeway/api.ErrOld", "causeway/api.ErrText", "causeway/api.ErrName", "causeway/api.ErrNone", "causeway/api.ErrExist", "causeway/api.ErrFull", "causeway/api.ErrSum", "causeway/api.ErrHeld", "causeway/api.ErrWait", "causeway/api.ErrKind", "errors.errorType"], apart := false, laid := [("errors.errorType", laid_errors_errorType), ("causeway/api.ErrText", laid_causeway_api_ErrText), ("causeway/api.ErrBound", laid_causeway_api_ErrBound), ("causeway/api.ErrShape", laid_causeway_api_ErrShape), ("causeway/api.ErrName", laid_causeway_api_ErrName), ("causeway/api.ErrNone", laid_causeway_api_ErrNone), ("causeway/api.ErrExist", laid_causeway_api_ErrExist), ("causeway/api.ErrFull", laid_causeway_api_ErrFull), ("causeway/api.ErrSum", laid_causeway_api_ErrSum), ("causeway/api.ErrOld", laid_causeway_api_ErrOld), ("causeway/api.ErrHeld", laid_causeway_api_ErrHeld), ("causeway/api.ErrWait", laid_causeway_api_ErrWait), ("causeway/api.ErrKind", laid_causeway_api_ErrKind)], narrowed := true }
def StreamSendsUptoSaid : Prop := streamSendsUptoRow.holds Tryd.pinned (OpenSpec.upto streamSendsSpec)

end Rows
end Go.Proofs.YtgelnbgjabpdbaaDoor
