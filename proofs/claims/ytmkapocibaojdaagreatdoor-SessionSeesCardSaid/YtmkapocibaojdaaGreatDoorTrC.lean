/- SessionSees returns true for every input, and turns nothing that was there: the given card, without a condition of ours. -/
import Derived.Test.YtmkapocibaojdaaGreatDoorCards
import Derived.Test.YtmkapocibaojdaaGreatDoorTie
import Derived.WalkKit
import Derived.ProofKit
import Derived.OpenShut
import Derived.Deep.DeepHandedRow
import Derived.Deep.DeepWitnessRowRef
import Derived.Lib.LaidIn
import Derived.LaidHandle
import Derived.Lib.LaidTab
import Derived.Test.YtmkapocibaojdaaGreatDoorTr17
open Option renaming map_eq_some_iff → aI
open Option.some renaming inj → dG
open Prod.mk renaming injEq → aH
namespace Go.Proofs.YtmkapocibaojdaaGreatDoor.AD
open Go Go.Sx Go.ChangeShapes Go.WideShapes Go.ChangeAt Go.RowKit Go.Lib
theorem ownK : ownKnob Tryz.prog.godebug = none := by kernel_rfl
theorem cellsTI : Tryz.prog.cellsOf 3 = 1 := by kernel_rfl
theorem laidO : laidOutB Tryz.prog = true := by kernel_rfl
theorem star : "*" ++ "errors.errorString" = "*errors.errorString" := by decide
theorem rowE (u : TypeId) (h : Tryz.prog.typeName? 3 u = some "*errors.errorString") : u = 390 :=
  typeName_ptr_named (nm := "errors.errorString") (by rw [star]; kernel_rfl) (by kernel_rfl) (by decide) u (by rw [star]; exact h)
noncomputable def vI (os : Os) : World :=
  let N := (World.settled Tryz.prog os).heap.size
  let w0 := World.holding Tryz.prog os ⟨#[.cells #[.string ⟨#[99, 97, 117, 115, 101, 119, 97, 121, 58, 32, 116, 101, 120, 116]⟩] 411, .cells #[.string ⟨#[99, 97, 117, 115, 101, 119, 97, 121, 58, 32, 98, 111, 117, 110, 100]⟩] 411, .cells #[.string ⟨#[99, 97, 117, 115, 101, 119, 97, 121, 58, 32, 115, 104, 97, 112, 101]⟩] 411, .cells #[.string ⟨#[99, 97, 117, 115, 101, 119, 97, 121, 58, 32, 110, 97, 109, 101]⟩] 411, .cells #[.string ⟨#[99, 97, 117, 115, 101, 119, 97, 121, 58, 32, 110, 111, 110, 101]⟩] 411, .cells #[.string ⟨#[99, 97, 117, 115, 101, 119, 97, 121, 58, 32, 101, 120, 105, 115, 116]⟩] 411, .cells #[.string ⟨#[99, 97, 117, 115, 101, 119, 97, 121, 58, 32, 102, 117, 108, 108]⟩] 411, .cells #[.string ⟨#[99, 97, 117, 115, 101, 119, 97, 121, 58, 32, 115, 117, 109]⟩] 411, .cells #[.string ⟨#[99, 97, 117, 115, 101, 119, 97, 121, 58, 32, 111, 108, 100]⟩] 411, .cells #[.string ⟨#[99, 97, 117, 115, 101, 119, 97, 121, 58, 32, 104, 101, 108, 100]⟩] 411, .cells #[.string ⟨#[99, 97, 117, 115, 101, 119, 97, 121, 58, 32, 119, 97, 105, 116]⟩] 411, .cells #[.string ⟨#[99, 97, 117, 115, 101, 119, 97, 121, 58, 32, 107, 105, 110, 100]⟩] 411], #[], []⟩
  let put (h : Array Obj) (g : Nat) (cs : Array Value) : Array Obj := h.modify g fun
    | .cells _ t frozen => .cells cs t frozen
    | o => o
  { w0 with heap := put (put (put (put (put (put (put (put (put (put (put (put (put (w0.heap) 12 #[.iface 330 (.agg #[.pointer (some ⟨13, 26, none⟩)])]) 7 #[.iface 390 (.pointer (some ⟨N + 0, 0, none⟩))]) 0 #[.iface 390 (.pointer (some ⟨N + 1, 0, none⟩))]) 1 #[.iface 390 (.pointer (some ⟨N + 2, 0, none⟩))]) 8 #[.iface 390 (.pointer (some ⟨N + 3, 0, none⟩))]) 4 #[.iface 390 (.pointer (some ⟨N + 4, 0, none⟩))]) 9 #[.iface 390 (.pointer (some ⟨N + 5, 0, none⟩))]) 10 #[.iface 390 (.pointer (some ⟨N + 6, 0, none⟩))]) 6 #[.iface 390 (.pointer (some ⟨N + 7, 0, none⟩))]) 5 #[.iface 390 (.pointer (some ⟨N + 8, 0, none⟩))]) 2 #[.iface 390 (.pointer (some ⟨N + 9, 0, none⟩))]) 3 #[.iface 390 (.pointer (some ⟨N + 10, 0, none⟩))]) 11 #[.iface 390 (.pointer (some ⟨N + 11, 0, none⟩))] }
noncomputable abbrev N0 : Nat := (World.settled Tryz.prog default).heap.size
theorem laid_met (os : Os) (args : Array Value) : laidMetH Tryz.prog Rows.sessionSeesRow.laid ((vI os).forCall (fun _ _ => 0) ⟨#[], args, []⟩).memory :=
  laidMetH_of_parts (LaidIn.of_run [7, N0 + 0, 0, N0 + 1, 1, N0 + 2, 8, N0 + 3, 4, N0 + 4, 9, N0 + 5, 10, N0 + 6, 6, N0 + 7, 5, N0 + 8, 2, N0 + 9, 3, N0 + 10, 11, N0 + 11] 8 (by kernel_rfl) (by kernel_rfl) (by kernel_rfl) (by kernel_rfl)).met (by kernel_rfl)
set_option maxRecDepth 100000 in
theorem contract (H : Type) (enc : TypeId × Value → H) (W : World) (base : Nat) (args : Array Value) (ds gs : List (DataW H)) (before : List MemPlace)
    (hval : ∀ (j : Nat) t v, Tryz.f8.params[j]? = some t → args[j]? = some v → Value.okWide Tryz.prog W .any base t v)
    (hW : DataW.Whole enc Tryz.prog Tryz.f8.params.toList Rows.sessionSeesSpec.vars false W args.toList ds gs before) (hL : laidMetH Tryz.prog Rows.sessionSeesRow.laid W) :
    Calls Tryz.prog 8 args W fun e W' => ∃ v, e = .returned v ∧ Rows.sessionSeesSpec.post enc Tryz.prog Tryz.f8 false true false false W args v W' := by
  have Nw := hW
  obtain ⟨p, q, VT, hV, rfl, hfz, hnd⟩ := hW
  have hA : DataW.TrodAll enc Tryz.prog W 0 (fun _ => true) true Tryz.f8.params.toList args.toList ds p := VT
  rw [Tryz.params8] at hA hval
  obtain ⟨v0, XY, d0, Yh, p0, q0, hargs, rfl, rfl, h0, r0⟩ := trodAll_cons hA
  obtain ⟨v1, NY, d1, Yg, p1, q1, rfl, rfl, rfl, h1, r1⟩ := trodAll_cons r0
  obtain ⟨v2, XX, d2, Yf, p2, q2, rfl, rfl, rfl, h2, r2⟩ := trodAll_cons r1
  obtain ⟨v3, XW, d3, Ye, p3, q3, rfl, rfl, rfl, h3, r3⟩ := trodAll_cons r2
  obtain ⟨rfl, rfl, rfl⟩ := trodAll_nil r3
  obtain rfl : args = #[v0, v1, v2, v3] := by cases args; simp_all
  obtain ⟨n0, rfl, rfl, rfl, w0⟩ := open_int Tryz.underlying3 (hval 0 3 v0 rfl rfl) h0
  obtain ⟨n1, rfl, rfl, rfl, w1⟩ := open_int Tryz.underlying3 (hval 1 3 v1 rfl rfl) h1
  obtain ⟨Yo, XU, c2, rfl, Jv, oQ, kS⟩ := uB Tryz.underlying32 Tryz.underlying3 cellsTI (hval 2 32 v2 rfl rfl) h2
  obtain ⟨Yl, XT, c3, rfl, Wm, X9, qE⟩ := uB Tryz.underlying32 Tryz.underlying3 cellsTI (hval 3 32 v3 rfl rfl) h3
  clear VT
  have QH : laidMet Tryz.prog (MF.map fun x => (x.1, DataW.iface "*errors.errorString" (.ptr (.agg [.lit (.string x.2)])))) W := hL.1
  obtain ⟨er, eb, hC, hI⟩ := QV QH hL.2
  refine (BO hC hI Jv Wm).mono fun e W' hR => ⟨_, hR.ret, HW (tb := 4) laidO (by kernel_rfl) Tryz.underlying4 rfl rfl Nw (fun gs h => by subst h; rfl) (DZ hR.fr)⟩
set_option maxRecDepth 100000 in
theorem lifted (os : Os) (started : os.Started) (H : Type) (enc : TypeId × Value → H) (F : Stop.Interp) :
    ReturnsInHanded {} Tryz.checked os 8 .any ((OpenSpec.ofChange Rows.sessionSeesSpec).preRow enc Tryz.prog Tryz.f8 Rows.sessionSeesRow.domain false Rows.sessionSeesRow.laid) (((OpenSpec.ofChange Rows.sessionSeesSpec).at F).post enc Tryz.prog Tryz.f8 false true false false) := by
  have hw : (DataW.whole enc Tryz.prog ((vI os).forCall (fun _ _ => 0) ⟨#[], #[.int .i64 0, .int .i64 0, .slice none 0 0, .slice none 0 0], []⟩).memory Tryz.f8.params.toList Rows.sessionSeesSpec.vars false (#[.int .i64 0, .int .i64 0, .slice none 0 0, .slice none 0 0] : Array Value).toList 8).map (fun x => (x.1, x.2.1)) =
      some ([.lit (.int .i64 0), .lit (.int .i64 0), .nil, .nil], []) := by kernel_rfl
  obtain ⟨⟨x1, x2, x3⟩, hx, Ks⟩ := aI.1 hw
  simp only [aH] at Ks
  obtain ⟨rfl, rfl⟩ := Ks
  refine returnsInHanded_of_row (C := Tryz.checked) (s := OpenSpec.ofChange Rows.sessionSeesSpec) ownK started (by kernel_rfl) Tryz.func8
    (witness_row_atRef (enc := enc) (C := Tryz.checked) false (vI os) #[.int .i64 0, .int .i64 0, .slice none 0 0, .slice none 0 0] rfl (by kernel_rfl) (by kernel_rfl) (by kernel_rfl)
      (OpenSpec.preRow_of_cond 8 hx (by kernel_rfl) (fun k hk => by cases hk) (by kernel_rfl) (laid_met os _))) ?_
  intro W base args ds gs before hval hW _ _ _ hL _ _
  exact contract H enc W base args ds gs before hval hW hL
theorem cl1 : laidOutB Tryz.pinned.checked.prog = true := by kernel_rfl
theorem cl2 : mapsRowed Tryz.pinned.checked.prog = true := by kernel_rfl
theorem cl3 : (Rows.sessionSeesRow.inPlace == Tryz.pinned.checked.prog.inPlace 8) = true := by kernel_rfl
theorem cl4 : (Rows.sessionSeesRow.unfollowed == Tryz.pinned.checked.prog.unfollowed 8) = true := by kernel_rfl
theorem cl5 : (Rows.sessionSeesRow.recurses == Tryz.pinned.checked.prog.recurses 8) = true := by kernel_rfl
theorem cl6 : (Rows.sessionSeesRow.named == Tryz.pinned.checked.prog.varsNamed 8) = true := by kernel_rfl
theorem closed : joinedFacts Tryz.pinned.checked.prog 8 Tryz.f8 (OpenSpec.ofChange Rows.sessionSeesSpec).bare Rows.sessionSeesRow = true := by
  unfold joinedFacts
  rw [cl1, cl2, cl3, cl4, cl5, cl6]
  kernel_rfl
theorem hinst : Tryz.f8.isInstance Tryz.pinned.checked.prog Rows.sessionSeesRow.origin Rows.sessionSeesRow.targs := of_decide_eq_true (by kernel_rfl)
theorem hwrap : Tryz.f8.isWrapper Tryz.pinned.checked.prog Rows.sessionSeesRow.wrapper Rows.sessionSeesRow.mainSum := by unfold Func.isWrapper; first | (rw [if_pos (by decide +kernel)]; kernel_rfl) | (rw [if_neg (by decide +kernel)]; exact ⟨rfl, rfl⟩)
theorem said : Rows.SessionSeesSaid :=
  OpenClaim.holds_of_cond 8 Tryz.f8 rfl rfl rfl rfl rfl rfl rfl ⟨rfl, rfl, rfl, rfl, rfl⟩ rfl rfl rfl rfl rfl (by kernel_rfl) Tryz.func8 closed hinst hwrap
    (fun os started H enc _ F => by rw [OpenClaim.pre_eq_preRow]; exact lifted os started H enc F)
theorem plain (f : FuncId) (fn : Func) (hf : Tryz.pinned.checked.prog.funcNamed "causeway/causewaylaw2.SessionSees" = some f) (hfn : Tryz.pinned.checked.prog.funcs[f]? = some fn) :
    true = Tryz.pinned.checked.prog.looks [] ∧ ∀ (j : Nat) t, fn.params[j]? = some t → Tryz.pinned.checked.prog.wantsStandIn t = false := by
  obtain rfl : f = 8 := dG ((show Tryz.prog.funcNamed "causeway/causewaylaw2.SessionSees" = some 8 by kernel_rfl).symm.trans hf) |>.symm
  obtain rfl : fn = Tryz.f8 := (dG (Tryz.func8.symm.trans hfn)).symm
  refine ⟨by kernel_rfl, fun j t ht => ?_⟩
  rw [Tryz.params8] at ht
  have hmem := Array.mem_of_getElem? ht
  have hall : (#[3, 3, 32, 32] : Array TypeId).all (fun t => !Tryz.prog.wantsStandIn t) = true := by kernel_rfl
  have this := (Array.all_eq_true_iff_forall_mem.1 hall) t hmem
  have h2 : Tryz.prog.wantsStandIn t = false := by simpa using this
  exact h2
theorem card : Rows.SessionSeesCardSaid :=
  Claim7.holds_tied_plain_at .later [] _ _ _ _ said (fun _ h => by cases h) (by kernel_rfl) (fun _ h => by cases h) sessionSees_row_tie rfl ⟨rfl, rfl⟩ (by kernel_rfl) rfl plain (by kernel_rfl)
end Go.Proofs.YtmkapocibaojdaaGreatDoor.AD
