/- What the listed variables hold, as the facts that the walks ask for: the package's errors, the handle that errors.As reads. -/
import Derived.Test.YtahbmdchcbnolaaDoorRows
import Derived.Test.YtahbmdchcbnolaaDoorCode
import Derived.Test.YtahbmdchcbnolaaDoorTx9
import Derived.WalkKit
import Derived.ProofKit
import Derived.LaidHandle
import Derived.Test.YtahbmdchcbnolaaDoorMz
namespace Go.Proofs.YtahbmdchcbnolaaDoor
open Go Go.Sx Go.ChangeShapes Go.WideShapes Go.ChangeAt Go.RowKit

theorem starE : "*" ++ "errors.errorString" = "*errors.errorString" := by decide
theorem rowE (u : TypeId) (h : Tryd.prog.typeName? 3 u = some "*errors.errorString") : u = 135 :=
  typeName_ptr_named (nm := "errors.errorString") (by rw [starE]; kernel_rfl) (by kernel_rfl) (by decide) u (by rw [starE]; exact h)
set_option maxHeartbeats 4000000 in
theorem handE {W : World} (h : handlesMet Tryd.prog [("errors.errorType", Rows.laid_errors_errorType)] W) : W.var? Tryd.prog "errors.errorType" = some #[.iface 102 (.agg #[.pointer (some ⟨21, 25, none⟩)])] := by
  obtain ⟨name, u, ty, e1, e2, e3, e4, e5⟩ := h _ (List.mem_singleton.2 rfl)
  have en : name = [101, 114, 114, 111, 114] := (Option.some.inj e1).symm
  subst en
  obtain rfl := Option.some.inj ((show (Tryd.prog.cutTypes.find? (·.1 == "internal/reflectlite.rtype")).map (·.2) = some 102 by kernel_rfl).symm.trans e2)
  have hm : ty ∈ (List.range Tryd.prog.types.size).filter fun t => Tryd.prog.rowNamed t [101, 114, 114, 111, 114] := List.mem_filter.2 ⟨List.mem_range.2 e3, e4⟩
  rw [show ((List.range Tryd.prog.types.size).filter fun t => Tryd.prog.rowNamed t [101, 114, 114, 111, 114]) = [25] by kernel_rfl] at hm
  obtain rfl := List.mem_singleton.1 hm
  have hh : typeHandle Tryd.prog 25 = .pointer (some ⟨21, 25, none⟩) := by kernel_rfl
  rw [hh] at e5
  exact e5
abbrev ns12 : List (String × List UInt8) := [("causeway/api.ErrText", [99, 97, 117, 115, 101, 119, 97, 121, 58, 32, 116, 101, 120, 116]), ("causeway/api.ErrBound", [99, 97, 117, 115, 101, 119, 97, 121, 58, 32, 98, 111, 117, 110, 100]), ("causeway/api.ErrShape", [99, 97, 117, 115, 101, 119, 97, 121, 58, 32, 115, 104, 97, 112, 101]), ("causeway/api.ErrName", [99, 97, 117, 115, 101, 119, 97, 121, 58, 32, 110, 97, 109, 101]), ("causeway/api.ErrNone", [99, 97, 117, 115, 101, 119, 97, 121, 58, 32, 110, 111, 110, 101]), ("causeway/api.ErrExist", [99, 97, 117, 115, 101, 119, 97, 121, 58, 32, 101, 120, 105, 115, 116]), ("causeway/api.ErrFull", [99, 97, 117, 115, 101, 119, 97, 121, 58, 32, 102, 117, 108, 108]), ("causeway/api.ErrSum", [99, 97, 117, 115, 101, 119, 97, 121, 58, 32, 115, 117, 109]), ("causeway/api.ErrOld", [99, 97, 117, 115, 101, 119, 97, 121, 58, 32, 111, 108, 100]), ("causeway/api.ErrHeld", [99, 97, 117, 115, 101, 119, 97, 121, 58, 32, 104, 101, 108, 100]), ("causeway/api.ErrWait", [99, 97, 117, 115, 101, 119, 97, 121, 58, 32, 119, 97, 105, 116]), ("causeway/api.ErrKind", [99, 97, 117, 115, 101, 119, 97, 121, 58, 32, 107, 105, 110, 100])]
set_option maxHeartbeats 4000000 in
theorem dC_of {W : World} (h : laidMet Tryd.prog (ns12.map fun x => (x.1, DataW.iface "*errors.errorString" (.ptr (.agg [.lit (.string x.2)])))) W) (hh : handlesMet Tryd.prog [("errors.errorType", Rows.laid_errors_errorType)] W) :
    ∃ er eb, Rep W (fun _ => True) .nilIface (dC er eb) ∧ Inj er := by
  obtain ⟨er, eb, hv, hI⟩ := errs_of Tryd.underlying25 rowE Tryd.underlying135 Tryd.underlying137 rfl rfl Tryd.underlying9 (by kernel_rfl) (by kernel_rfl) ns12 h (by kernel_rfl)
  refine ⟨er, eb, .all ?_, hI⟩
  show AllG W (fun _ => True) (cglobs er eb)
  unfold cglobs
  exact (.cons (rep_var (g := 0) (by kernel_rfl) (hv 0 _ rfl).1 rfl) (.cons (rep_var (g := 2) (by kernel_rfl) (hv 1 _ rfl).1 rfl) (.cons (rep_var (g := 1) (by kernel_rfl) (hv 2 _ rfl).1 rfl) (.cons (rep_var (g := 3) (by kernel_rfl) (hv 3 _ rfl).1 rfl) (.cons (rep_var (g := 4) (by kernel_rfl) (hv 4 _ rfl).1 rfl) (.cons (rep_var (g := 5) (by kernel_rfl) (hv 5 _ rfl).1 rfl) (.cons (rep_var (g := 6) (by kernel_rfl) (hv 6 _ rfl).1 rfl) (.cons (rep_var (g := 7) (by kernel_rfl) (hv 7 _ rfl).1 rfl) (.cons (rep_var (g := 8) (by kernel_rfl) (hv 8 _ rfl).1 rfl) (.cons (rep_var (g := 9) (by kernel_rfl) (hv 9 _ rfl).1 rfl) (.cons (rep_var (g := 10) (by kernel_rfl) (hv 10 _ rfl).1 rfl) (.cons (rep_var (g := 11) (by kernel_rfl) (hv 11 _ rfl).1 rfl)  (.cons (rep_var (g := 12) (by kernel_rfl) (handE hh) rfl) (.cons (.obj (hv 0 _ rfl).2 trivial) (.cons (.obj (hv 1 _ rfl).2 trivial) (.cons (.obj (hv 2 _ rfl).2 trivial) (.cons (.obj (hv 3 _ rfl).2 trivial) (.cons (.obj (hv 4 _ rfl).2 trivial) (.cons (.obj (hv 5 _ rfl).2 trivial) (.cons (.obj (hv 6 _ rfl).2 trivial) (.cons (.obj (hv 7 _ rfl).2 trivial) (.cons (.obj (hv 8 _ rfl).2 trivial) (.cons (.obj (hv 9 _ rfl).2 trivial) (.cons (.obj (hv 10 _ rfl).2 trivial) (.cons (.obj (hv 11 _ rfl).2 trivial) (.nil _ _))))))))))))))))))))))))))
end Go.Proofs.YtahbmdchcbnolaaDoor
