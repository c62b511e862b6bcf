/- What the listed variables hold beside the package's errors: the table of powers, strconv's two errors; a text as a parameter. -/
import Derived.Test.YtahbmdchcbnolaaDoorLaidC
import Derived.Test.YtahbmdchcbnolaaDoorVtX
import Derived.LaidSub
import Derived.Test.YtahbmdchcbnolaaDoorMz
namespace Go.Proofs.YtahbmdchcbnolaaDoor
open Go Go.Sx Go.ChangeShapes Go.WideShapes Go.ChangeAt Go.RowKit

set_option maxHeartbeats 4000000 in
theorem below_zero {w w' : World} (h : Fr [] { w with drawn := 0 } w') : Below w.heap.size w w' := by
  have b := h.below
  exact ⟨b.os, b.tape, b.output, b.size, b.block⟩
set_option maxRecDepth 100000 in
set_option maxHeartbeats 4000000 in
theorem openStr {W : World} {H : Type} {enc : TypeId × Value → H} {base : Nat} {v : Value} {d : DataW H} {ps : List MemPlace} (hv : Value.okWide Tryd.prog W .any base 9 v) (_ : DataW.Trod enc Tryd.prog W 0 (fun _ => true) true 9 v d ps) : ∃ s : ByteArray, v = .string s ∧ True := by
  obtain ⟨s, rfl⟩ := okWide_string Tryd.underlying9 hv
  exact ⟨s, rfl, trivial⟩
abbrev allT : List (String × DataW Unit) := Rows.vectorTextsRow.laid.filter fun x => x.2.handleName?.isNone
set_option maxRecDepth 100000 in
theorem all12 : (allT.filter fun x => ns12.any fun y => y.1 == x.1) = ns12.map fun x => (x.1, DataW.iface "*errors.errorString" (.ptr (.agg [.lit (.string x.2)]))) := by kernel_rfl
set_option maxRecDepth 100000 in
theorem allPow : (allT.filter fun x => x.1 == "internal/strconv.uint64pow10") = [("internal/strconv.uint64pow10", Lib.tabData .u64 Lib.pow10Tab)] := by kernel_rfl
set_option maxRecDepth 100000 in
theorem allSyn : (allT.filter fun x => x.1 == "strconv.ErrSyntax") = [("strconv.ErrSyntax", .iface "*errors.errorString" (.ptr (.agg [.lit (.string [105, 110, 118, 97, 108, 105, 100, 32, 115, 121, 110, 116, 97, 120])])))] := by kernel_rfl
set_option maxRecDepth 100000 in
theorem allRan : (allT.filter fun x => x.1 == "strconv.ErrRange") = [("strconv.ErrRange", .iface "*errors.errorString" (.ptr (.agg [.lit (.string [118, 97, 108, 117, 101, 32, 111, 117, 116, 32, 111, 102, 32, 114, 97, 110, 103, 101])])))] := by kernel_rfl
set_option maxHeartbeats 4000000 in
theorem tabO_of {W : World} (h : Lib.TabIs Tryd.prog W "internal/strconv.uint64pow10" .u64 Lib.pow10Tab) : ∃ o, W.heap[15]? = some o ∧ ∀ w : World, w.heap[15]? = some o → Lib.TabIs Tryd.prog w "internal/strconv.uint64pow10" .u64 Lib.pow10Tab := by
  unfold Lib.TabIs World.var? at h
  rw [show Tryd.prog.globalNamed "internal/strconv.uint64pow10" = some 15 by kernel_rfl] at h
  simp only [Option.bind_some] at h
  cases hh : W.heap[15]? with
  | none => rw [hh] at h; cases h
  | some o =>
    refine ⟨o, rfl, fun w hw => ?_⟩
    unfold Lib.TabIs World.var?
    rw [show Tryd.prog.globalNamed "internal/strconv.uint64pow10" = some 15 by kernel_rfl]
    simp only [Option.bind_some]
    rw [hw, ← hh]
    exact h
set_option maxHeartbeats 4000000 in
theorem errT_of {W : World} {n : String} {g : Nat} {text : List UInt8} (h : laidMet Tryd.prog [(n, .iface "*errors.errorString" (.ptr (.agg [.lit (.string text)])))] W) (hg : Tryd.prog.globalNamed n = some g) (ht : (Tryd.prog.globals[g]?).map (·.type) = some 25) : ∃ a : Addr, W.var? Tryd.prog n = some #[.iface 135 (.pointer (some a))] := by
  obtain ⟨a, s, hv, _⟩ := laid_sentinel (tp := 135) (te := 137) (ts := 9) h hg ht Tryd.underlying25 rowE Tryd.underlying135 Tryd.underlying137 rfl rfl Tryd.underlying9 (by kernel_rfl) (by kernel_rfl)
  exact ⟨a, hv⟩
set_option maxRecDepth 100000 in
set_option maxHeartbeats 4000000 in
theorem dT_of {W : World} (h : laidMet Tryd.prog allT W) : ∃ o e1 e2, Rep W (fun _ => True) .nilIface (dT o e1 e2) ∧ TabO o e1 e2 := by
  have h1 := h.filter fun x => x.1 == "internal/strconv.uint64pow10"
  have h2 := h.filter fun x => x.1 == "strconv.ErrSyntax"
  have h3 := h.filter fun x => x.1 == "strconv.ErrRange"
  rw [allPow] at h1
  rw [allSyn] at h2
  rw [allRan] at h3
  obtain ⟨o, hb, ho⟩ := tabO_of (Lib.tabIs_of_head (P := Tryd.prog) (g := 15) (t := 125) (e := 94) (n := 20) (by kernel_rfl) (by kernel_rfl) Tryd.underlying125 Tryd.underlying94 (by kernel_rfl) (by kernel_rfl) h1)
  obtain ⟨a1, hv1⟩ := errT_of h2 (g := 13) (by kernel_rfl) (by kernel_rfl)
  obtain ⟨a2, hv2⟩ := errT_of h3 (g := 14) (by kernel_rfl) (by kernel_rfl)
  refine ⟨o, .iface 135 (.pointer (some a1)), .iface 135 (.pointer (some a2)), .all ?_, ho, ⟨_, _, rfl⟩, ⟨_, _, rfl⟩⟩
  show AllG W (fun _ => True) _
  exact .cons (.obj hb trivial) (.cons (rep_var (by kernel_rfl) hv1 rfl) (.cons (rep_var (by kernel_rfl) hv2 rfl) (.nil _ _)))
end Go.Proofs.YtahbmdchcbnolaaDoor
