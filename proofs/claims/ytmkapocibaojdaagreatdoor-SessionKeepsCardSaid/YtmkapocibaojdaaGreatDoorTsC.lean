/- SessionKeeps returns true for every input, and turns nothing that was there: the given card, without a condition of ours. -/
import Derived.Test.YtmkapocibaojdaaGreatDoorCards
import Derived.Test.YtmkapocibaojdaaGreatDoorTie
import Derived.WalkKit
import Derived.ProofKit
import Derived.OpenShut
import Derived.Deep.DeepHandedRow
import Derived.Deep.DeepWitnessRowRef
import Derived.Lib.LaidIn
import Derived.LaidHandle
import Derived.Lib.LaidTab
import Derived.Test.YtmkapocibaojdaaGreatDoorTs15
namespace Go.Proofs.YtmkapocibaojdaaGreatDoor.sessionKeepsC
open Go Go.Sx Go.ChangeShapes Go.WideShapes Go.ChangeAt Go.RowKit Go.Lib
theorem ownK : ownKnob Tryz.prog.godebug = none := by kernel_rfl
theorem cellsTI : Tryz.prog.cellsOf 3 = 1 := by kernel_rfl
theorem laidO : laidOutB Tryz.prog = true := by kernel_rfl
theorem star : "*" ++ "errors.errorString" = "*errors.errorString" := by decide
theorem rowE (u : TypeId) (h : Tryz.prog.typeName? 3 u = some "*errors.errorString") : u = 390 :=
  typeName_ptr_named (nm := "errors.errorString") (by rw [star]; kernel_rfl) (by kernel_rfl) (by decide) u (by rw [star]; exact h)
noncomputable def laidWorld (os : Os) : World :=
  let N := (World.settled Tryz.prog os).heap.size
  let w0 := World.holding Tryz.prog os ⟨#[.cells #[.string ⟨#[99, 97, 117, 115, 101, 119, 97, 121, 58, 32, 116, 101, 120, 116]⟩] 411, .cells #[.string ⟨#[99, 97, 117, 115, 101, 119, 97, 121, 58, 32, 98, 111, 117, 110, 100]⟩] 411, .cells #[.string ⟨#[99, 97, 117, 115, 101, 119, 97, 121, 58, 32, 115, 104, 97, 112, 101]⟩] 411, .cells #[.string ⟨#[99, 97, 117, 115, 101, 119, 97, 121, 58, 32, 110, 97, 109, 101]⟩] 411, .cells #[.string ⟨#[99, 97, 117, 115, 101, 119, 97, 121, 58, 32, 110, 111, 110, 101]⟩] 411, .cells #[.string ⟨#[99, 97, 117, 115, 101, 119, 97, 121, 58, 32, 101, 120, 105, 115, 116]⟩] 411, .cells #[.string ⟨#[99, 97, 117, 115, 101, 119, 97, 121, 58, 32, 102, 117, 108, 108]⟩] 411, .cells #[.string ⟨#[99, 97, 117, 115, 101, 119, 97, 121, 58, 32, 115, 117, 109]⟩] 411, .cells #[.string ⟨#[99, 97, 117, 115, 101, 119, 97, 121, 58, 32, 111, 108, 100]⟩] 411, .cells #[.string ⟨#[99, 97, 117, 115, 101, 119, 97, 121, 58, 32, 104, 101, 108, 100]⟩] 411, .cells #[.string ⟨#[99, 97, 117, 115, 101, 119, 97, 121, 58, 32, 119, 97, 105, 116]⟩] 411, .cells #[.string ⟨#[99, 97, 117, 115, 101, 119, 97, 121, 58, 32, 107, 105, 110, 100]⟩] 411], #[], []⟩
  let put (h : Array Obj) (g : Nat) (cs : Array Value) : Array Obj := h.modify g fun
    | .cells _ t frozen => .cells cs t frozen
    | o => o
  { w0 with heap := put (put (put (put (put (put (put (put (put (put (put (put (put (w0.heap) 12 #[.iface 330 (.agg #[.pointer (some ⟨13, 26, none⟩)])]) 7 #[.iface 390 (.pointer (some ⟨N + 0, 0, none⟩))]) 0 #[.iface 390 (.pointer (some ⟨N + 1, 0, none⟩))]) 1 #[.iface 390 (.pointer (some ⟨N + 2, 0, none⟩))]) 8 #[.iface 390 (.pointer (some ⟨N + 3, 0, none⟩))]) 4 #[.iface 390 (.pointer (some ⟨N + 4, 0, none⟩))]) 9 #[.iface 390 (.pointer (some ⟨N + 5, 0, none⟩))]) 10 #[.iface 390 (.pointer (some ⟨N + 6, 0, none⟩))]) 6 #[.iface 390 (.pointer (some ⟨N + 7, 0, none⟩))]) 5 #[.iface 390 (.pointer (some ⟨N + 8, 0, none⟩))]) 2 #[.iface 390 (.pointer (some ⟨N + 9, 0, none⟩))]) 3 #[.iface 390 (.pointer (some ⟨N + 10, 0, none⟩))]) 11 #[.iface 390 (.pointer (some ⟨N + 11, 0, none⟩))] }
noncomputable abbrev N0 : Nat := (World.settled Tryz.prog default).heap.size
theorem laid_met (os : Os) (args : Array Value) : laidMetH Tryz.prog Rows.sessionKeepsRow.laid ((laidWorld os).forCall (fun _ _ => 0) ⟨#[], args, []⟩).memory :=
  laidMetH_of_parts (LaidIn.of_run [7, N0 + 0, 0, N0 + 1, 1, N0 + 2, 8, N0 + 3, 4, N0 + 4, 9, N0 + 5, 10, N0 + 6, 6, N0 + 7, 5, N0 + 8, 2, N0 + 9, 3, N0 + 10, 11, N0 + 11] 8 (by kernel_rfl) (by kernel_rfl) (by kernel_rfl) (by kernel_rfl)).met (by kernel_rfl)
set_option maxRecDepth 100000 in
theorem contract (H : Type) (enc : TypeId × Value → H) (W : World) (base : Nat) (args : Array Value) (ds gs : List (DataW H)) (before : List MemPlace)
    (hval : ∀ (j : Nat) t v, Tryz.f7.params[j]? = some t → args[j]? = some v → Value.okWide Tryz.prog W .any base t v)
    (hW : DataW.Whole enc Tryz.prog Tryz.f7.params.toList Rows.sessionKeepsSpec.vars false W args.toList ds gs before) (hL : laidMetH Tryz.prog Rows.sessionKeepsRow.laid W) :
    Calls Tryz.prog 7 args W fun e W' => ∃ v, e = .returned v ∧ Rows.sessionKeepsSpec.post enc Tryz.prog Tryz.f7 false true false false W args v W' := by
  have hW' := hW
  obtain ⟨p, q, hA0, hV, rfl, hfz, hnd⟩ := hW
  have hA : DataW.TrodAll enc Tryz.prog W 0 (fun _ => true) true Tryz.f7.params.toList args.toList ds p := hA0
  rw [Tryz.params7] at hA hval
  obtain ⟨v0, vs0, d0, ds0, p0, q0, hargs, rfl, rfl, h0, r0⟩ := trodAll_cons hA
  obtain ⟨v1, vs1, d1, ds1, p1, q1, rfl, rfl, rfl, h1, r1⟩ := trodAll_cons r0
  obtain ⟨rfl, rfl, rfl⟩ := trodAll_nil r1
  obtain rfl : args = #[v0, v1] := by cases args; simp_all
  obtain ⟨ad0, zs0, n0, c0, rfl, hz0, hb0⟩ := (opSteps (W := W)).param Tryz.underlying74 (hval 0 74 v0 rfl rfl) h0
  obtain ⟨zs1, rfl, hz1⟩ := openStr (hval 1 9 v1 rfl rfl) h1
  clear hA0
  have hL1 : laidMet Tryz.prog (ns12.map fun x => (x.1, DataW.iface "*errors.errorString" (.ptr (.agg [.lit (.string x.2)])))) W := hL.1
  obtain ⟨er, eb, hC, hI⟩ := dC_of hL1 hL.2
  refine (sessionKeeps hC hI hb0).mono fun e W' hR => ⟨_, hR.ret, law_post (tb := 4) laidO (by kernel_rfl) Tryz.underlying4 rfl rfl hW' (fun gs h => by subst h; rfl) (below_zero hR.fr)⟩
set_option maxRecDepth 100000 in
theorem lifted (os : Os) (started : os.Started) (H : Type) (enc : TypeId × Value → H) (F : Stop.Interp) :
    ReturnsInHanded {} Tryz.checked os 7 .any ((OpenSpec.ofChange Rows.sessionKeepsSpec).preRow enc Tryz.prog Tryz.f7 Rows.sessionKeepsRow.domain false Rows.sessionKeepsRow.laid) (((OpenSpec.ofChange Rows.sessionKeepsSpec).at F).post enc Tryz.prog Tryz.f7 false true false false) := by
  have hw : (DataW.whole enc Tryz.prog ((laidWorld os).forCall (fun _ _ => 0) ⟨#[], #[.slice none 0 0, .string ⟨#[]⟩], []⟩).memory Tryz.f7.params.toList Rows.sessionKeepsSpec.vars false (#[.slice none 0 0, .string ⟨#[]⟩] : Array Value).toList 8).map (fun x => (x.1, x.2.1)) =
      some ([.nil, .lit (.string [])], []) := by kernel_rfl
  obtain ⟨⟨x1, x2, x3⟩, hx, hx1⟩ := Option.map_eq_some_iff.1 hw
  simp only [Prod.mk.injEq] at hx1
  obtain ⟨rfl, rfl⟩ := hx1
  refine returnsInHanded_of_row (C := Tryz.checked) (s := OpenSpec.ofChange Rows.sessionKeepsSpec) ownK started (by kernel_rfl) Tryz.func7
    (witness_row_atRef (enc := enc) (C := Tryz.checked) false (laidWorld os) #[.slice none 0 0, .string ⟨#[]⟩] rfl (by kernel_rfl) (by kernel_rfl) (by kernel_rfl)
      (OpenSpec.preRow_of_cond 8 hx (by kernel_rfl) (fun k hk => by cases hk) (by kernel_rfl) (laid_met os _))) ?_
  intro W base args ds gs before hval hW _ _ _ hL _ _
  exact contract H enc W base args ds gs before hval hW hL
theorem cl1 : laidOutB Tryz.pinned.checked.prog = true := by kernel_rfl
theorem cl2 : mapsRowed Tryz.pinned.checked.prog = true := by kernel_rfl
theorem cl3 : (Rows.sessionKeepsRow.inPlace == Tryz.pinned.checked.prog.inPlace 7) = true := by kernel_rfl
theorem cl4 : (Rows.sessionKeepsRow.unfollowed == Tryz.pinned.checked.prog.unfollowed 7) = true := by kernel_rfl
theorem cl5 : (Rows.sessionKeepsRow.recurses == Tryz.pinned.checked.prog.recurses 7) = true := by kernel_rfl
theorem cl6 : (Rows.sessionKeepsRow.named == Tryz.pinned.checked.prog.varsNamed 7) = true := by kernel_rfl
theorem closed : joinedFacts Tryz.pinned.checked.prog 7 Tryz.f7 (OpenSpec.ofChange Rows.sessionKeepsSpec).bare Rows.sessionKeepsRow = true := by
  unfold joinedFacts
  rw [cl1, cl2, cl3, cl4, cl5, cl6]
  kernel_rfl
theorem hinst : Tryz.f7.isInstance Tryz.pinned.checked.prog Rows.sessionKeepsRow.origin Rows.sessionKeepsRow.targs := of_decide_eq_true (by kernel_rfl)
theorem hwrap : Tryz.f7.isWrapper Tryz.pinned.checked.prog Rows.sessionKeepsRow.wrapper Rows.sessionKeepsRow.mainSum := by unfold Func.isWrapper; first | (rw [if_pos (by decide +kernel)]; kernel_rfl) | (rw [if_neg (by decide +kernel)]; exact ⟨rfl, rfl⟩)
theorem said : Rows.SessionKeepsSaid :=
  OpenClaim.holds_of_cond 7 Tryz.f7 rfl rfl rfl rfl rfl rfl rfl ⟨rfl, rfl, rfl, rfl, rfl⟩ rfl rfl rfl rfl rfl (by kernel_rfl) Tryz.func7 closed hinst hwrap
    (fun os started H enc _ F => by rw [OpenClaim.pre_eq_preRow]; exact lifted os started H enc F)
theorem plain (f : FuncId) (fn : Func) (hf : Tryz.pinned.checked.prog.funcNamed "causeway/causewaylaw2.SessionKeeps" = some f) (hfn : Tryz.pinned.checked.prog.funcs[f]? = some fn) :
    true = Tryz.pinned.checked.prog.looks [] ∧ ∀ (j : Nat) t, fn.params[j]? = some t → Tryz.pinned.checked.prog.wantsStandIn t = false := by
  obtain rfl : f = 7 := Option.some.inj ((show Tryz.prog.funcNamed "causeway/causewaylaw2.SessionKeeps" = some 7 by kernel_rfl).symm.trans hf) |>.symm
  obtain rfl : fn = Tryz.f7 := (Option.some.inj (Tryz.func7.symm.trans hfn)).symm
  refine ⟨by kernel_rfl, fun j t ht => ?_⟩
  rw [Tryz.params7] at ht
  have hmem := Array.mem_of_getElem? ht
  have hall : (#[74, 9] : Array TypeId).all (fun t => !Tryz.prog.wantsStandIn t) = true := by kernel_rfl
  have this := (Array.all_eq_true_iff_forall_mem.1 hall) t hmem
  have h2 : Tryz.prog.wantsStandIn t = false := by simpa using this
  exact h2
theorem card : Rows.SessionKeepsCardSaid :=
  Claim7.holds_tied_plain_at .later [] _ _ _ _ said (fun _ h => by cases h) (by kernel_rfl) (fun _ h => by cases h) sessionKeeps_row_tie rfl ⟨rfl, rfl⟩ (by kernel_rfl) rfl plain (by kernel_rfl)
end Go.Proofs.YtmkapocibaojdaaGreatDoor.sessionKeepsC
