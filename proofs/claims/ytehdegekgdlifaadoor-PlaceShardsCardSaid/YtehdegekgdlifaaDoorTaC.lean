/- PlaceShards returns true for every input, and turns nothing that was there: the given card, without a condition of ours. -/
import Derived.Test.YtehdegekgdlifaaDoorCards
import Derived.Test.YtehdegekgdlifaaDoorTie
import Derived.WalkKit
import Derived.ProofKit
import Derived.OpenShut
import Derived.Deep.DeepHandedRow
import Derived.Deep.DeepWitnessRowRef
import Derived.Lib.LaidIn
import Derived.LaidHandle
import Derived.Lib.LaidTab
import Derived.Test.YtehdegekgdlifaaDoorTa12
namespace Go.Proofs.YtehdegekgdlifaaDoor.placeShardsC
open Go Go.Sx Go.ChangeShapes Go.WideShapes Go.ChangeAt Go.RowKit Go.Lib
theorem ownK : ownKnob Tryd.prog.godebug = none := by kernel_rfl
theorem cellsTI : Tryd.prog.cellsOf 3 = 1 := by kernel_rfl
theorem laidO : laidOutB Tryd.prog = true := by kernel_rfl
theorem star : "*" ++ "errors.errorString" = "*errors.errorString" := by decide
theorem rowE (u : TypeId) (h : Tryd.prog.typeName? 3 u = some "*errors.errorString") : u = 156 :=
  typeName_ptr_named (nm := "errors.errorString") (by rw [star]; kernel_rfl) (by kernel_rfl) (by decide) u (by rw [star]; exact h)
noncomputable def laidWorld (os : Os) : World :=
  let N := (World.settled Tryd.prog os).heap.size
  let w0 := World.holding Tryd.prog os ⟨#[.cells #[.string ⟨#[99, 97, 117, 115, 101, 119, 97, 121, 58, 32, 116, 101, 120, 116]⟩] 177, .cells #[.string ⟨#[99, 97, 117, 115, 101, 119, 97, 121, 58, 32, 98, 111, 117, 110, 100]⟩] 177, .cells #[.string ⟨#[99, 97, 117, 115, 101, 119, 97, 121, 58, 32, 115, 104, 97, 112, 101]⟩] 177, .cells #[.string ⟨#[99, 97, 117, 115, 101, 119, 97, 121, 58, 32, 110, 97, 109, 101]⟩] 177, .cells #[.string ⟨#[99, 97, 117, 115, 101, 119, 97, 121, 58, 32, 110, 111, 110, 101]⟩] 177, .cells #[.string ⟨#[99, 97, 117, 115, 101, 119, 97, 121, 58, 32, 101, 120, 105, 115, 116]⟩] 177, .cells #[.string ⟨#[99, 97, 117, 115, 101, 119, 97, 121, 58, 32, 102, 117, 108, 108]⟩] 177, .cells #[.string ⟨#[99, 97, 117, 115, 101, 119, 97, 121, 58, 32, 115, 117, 109]⟩] 177, .cells #[.string ⟨#[99, 97, 117, 115, 101, 119, 97, 121, 58, 32, 111, 108, 100]⟩] 177, .cells #[.string ⟨#[99, 97, 117, 115, 101, 119, 97, 121, 58, 32, 104, 101, 108, 100]⟩] 177, .cells #[.string ⟨#[99, 97, 117, 115, 101, 119, 97, 121, 58, 32, 119, 97, 105, 116]⟩] 177, .cells #[.string ⟨#[99, 97, 117, 115, 101, 119, 97, 121, 58, 32, 107, 105, 110, 100]⟩] 177], #[], []⟩
  let put (h : Array Obj) (g : Nat) (cs : Array Value) : Array Obj := h.modify g fun
    | .cells _ t frozen => .cells cs t frozen
    | o => o
  { w0 with heap := put (put (put (put (put (put (put (put (put (put (put (put (put (w0.heap) 12 #[.iface 139 (.agg #[.pointer (some ⟨13, 24, none⟩)])]) 2 #[.iface 156 (.pointer (some ⟨N + 0, 0, none⟩))]) 1 #[.iface 156 (.pointer (some ⟨N + 1, 0, none⟩))]) 3 #[.iface 156 (.pointer (some ⟨N + 2, 0, none⟩))]) 0 #[.iface 156 (.pointer (some ⟨N + 3, 0, none⟩))]) 4 #[.iface 156 (.pointer (some ⟨N + 4, 0, none⟩))]) 5 #[.iface 156 (.pointer (some ⟨N + 5, 0, none⟩))]) 6 #[.iface 156 (.pointer (some ⟨N + 6, 0, none⟩))]) 7 #[.iface 156 (.pointer (some ⟨N + 7, 0, none⟩))]) 8 #[.iface 156 (.pointer (some ⟨N + 8, 0, none⟩))]) 9 #[.iface 156 (.pointer (some ⟨N + 9, 0, none⟩))]) 10 #[.iface 156 (.pointer (some ⟨N + 10, 0, none⟩))]) 11 #[.iface 156 (.pointer (some ⟨N + 11, 0, none⟩))] }
noncomputable abbrev N0 : Nat := (World.settled Tryd.prog default).heap.size
theorem laid_met (os : Os) (args : Array Value) : laidMetH Tryd.prog Rows.placeShardsRow.laid ((laidWorld os).forCall (fun _ _ => 0) ⟨#[], args, []⟩).memory :=
  laidMetH_of_parts (LaidIn.of_run [2, N0 + 0, 1, N0 + 1, 3, N0 + 2, 0, N0 + 3, 4, N0 + 4, 5, N0 + 5, 6, N0 + 6, 7, N0 + 7, 8, N0 + 8, 9, N0 + 9, 10, N0 + 10, 11, N0 + 11] 8 (by kernel_rfl) (by kernel_rfl) (by kernel_rfl) (by kernel_rfl)).met (by kernel_rfl)
set_option maxRecDepth 100000 in
theorem contract (H : Type) (enc : TypeId × Value → H) (W : World) (base : Nat) (args : Array Value) (ds gs : List (DataW H)) (before : List MemPlace)
    (hval : ∀ (j : Nat) t v, Tryd.f3.params[j]? = some t → args[j]? = some v → Value.okWide Tryd.prog W .any base t v)
    (hW : DataW.Whole enc Tryd.prog Tryd.f3.params.toList Rows.placeShardsSpec.vars false W args.toList ds gs before) (hL : laidMetH Tryd.prog Rows.placeShardsRow.laid W) :
    Calls Tryd.prog 3 args W fun e W' => ∃ v, e = .returned v ∧ Rows.placeShardsSpec.post enc Tryd.prog Tryd.f3 false true false false W args v W' := by
  have hW' := hW
  obtain ⟨p, q, hA0, hV, rfl, hfz, hnd⟩ := hW
  have hA : DataW.TrodAll enc Tryd.prog W 0 (fun _ => true) true Tryd.f3.params.toList args.toList ds p := hA0
  rw [Tryd.params3] at hA hval
  obtain ⟨v0, vs0, d0, ds0, p0, q0, hargs, rfl, rfl, h0, r0⟩ := trodAll_cons hA
  obtain ⟨v1, vs1, d1, ds1, p1, q1, rfl, rfl, rfl, h1, r1⟩ := trodAll_cons r0
  obtain ⟨rfl, rfl, rfl⟩ := trodAll_nil r1
  obtain rfl : args = #[v0, v1] := by cases args; simp_all
  obtain ⟨zs0, rfl, hz0⟩ := openStr (hval 0 9 v0 rfl rfl) h0
  obtain ⟨n1, rfl, rfl, rfl, w1⟩ := open_int Tryd.underlying3 (hval 1 3 v1 rfl rfl) h1
  clear hA0
  have hL1 : laidMet Tryd.prog (ns12.map fun x => (x.1, DataW.iface "*errors.errorString" (.ptr (.agg [.lit (.string x.2)])))) W := hL.1
  obtain ⟨er, eb, hC, hI⟩ := dC_of hL1 hL.2
  refine (placeShards hC hI).mono fun e W' hR => ⟨_, hR.ret, law_post (tb := 4) laidO (by kernel_rfl) Tryd.underlying4 rfl rfl hW' (fun gs h => by subst h; rfl) hR.fr.below⟩
set_option maxRecDepth 100000 in
theorem lifted (os : Os) (started : os.Started) (H : Type) (enc : TypeId × Value → H) (F : Stop.Interp) :
    ReturnsInHanded {} Tryd.checked os 3 .any ((OpenSpec.ofChange Rows.placeShardsSpec).preRow enc Tryd.prog Tryd.f3 Rows.placeShardsRow.domain false Rows.placeShardsRow.laid) (((OpenSpec.ofChange Rows.placeShardsSpec).at F).post enc Tryd.prog Tryd.f3 false true false false) := by
  have hw : (DataW.whole enc Tryd.prog ((laidWorld os).forCall (fun _ _ => 0) ⟨#[], #[.string ⟨#[]⟩, .int .i64 0], []⟩).memory Tryd.f3.params.toList Rows.placeShardsSpec.vars false (#[.string ⟨#[]⟩, .int .i64 0] : Array Value).toList 8).map (fun x => (x.1, x.2.1)) =
      some ([.lit (.string []), .lit (.int .i64 0)], []) := by kernel_rfl
  obtain ⟨⟨x1, x2, x3⟩, hx, hx1⟩ := Option.map_eq_some_iff.1 hw
  simp only [Prod.mk.injEq] at hx1
  obtain ⟨rfl, rfl⟩ := hx1
  refine returnsInHanded_of_row (C := Tryd.checked) (s := OpenSpec.ofChange Rows.placeShardsSpec) ownK started (by kernel_rfl) Tryd.func3
    (witness_row_atRef (enc := enc) (C := Tryd.checked) false (laidWorld os) #[.string ⟨#[]⟩, .int .i64 0] rfl (by kernel_rfl) (by kernel_rfl) (by kernel_rfl)
      (OpenSpec.preRow_of_cond 8 hx (by kernel_rfl) (fun k hk => by cases hk) (by kernel_rfl) (laid_met os _))) ?_
  intro W base args ds gs before hval hW _ _ _ hL _ _
  exact contract H enc W base args ds gs before hval hW hL
theorem said : Rows.PlaceShardsSaid :=
  OpenClaim.holds_of_cond 3 Tryd.f3 rfl rfl rfl rfl rfl rfl rfl ⟨rfl, rfl, rfl, rfl, rfl⟩ rfl rfl rfl rfl rfl (by kernel_rfl) Tryd.func3 (by kernel_rfl)
    (of_decide_eq_true (by kernel_rfl)) (by unfold Func.isWrapper; first | (rw [if_pos (by decide +kernel)]; kernel_rfl) | (rw [if_neg (by decide +kernel)]; exact ⟨rfl, rfl⟩))
    (fun os started H enc _ F => by rw [OpenClaim.pre_eq_preRow]; exact lifted os started H enc F)
theorem plain (f : FuncId) (fn : Func) (hf : Tryd.pinned.checked.prog.funcNamed "causeway/causewaylaw2.PlaceShards" = some f) (hfn : Tryd.pinned.checked.prog.funcs[f]? = some fn) :
    true = Tryd.pinned.checked.prog.looks [] ∧ ∀ (j : Nat) t, fn.params[j]? = some t → Tryd.pinned.checked.prog.wantsStandIn t = false := by
  obtain rfl : f = 3 := Option.some.inj ((show Tryd.prog.funcNamed "causeway/causewaylaw2.PlaceShards" = some 3 by kernel_rfl).symm.trans hf) |>.symm
  obtain rfl : fn = Tryd.f3 := (Option.some.inj (Tryd.func3.symm.trans hfn)).symm
  refine ⟨by kernel_rfl, fun j t ht => ?_⟩
  rw [Tryd.params3] at ht
  have hmem := Array.mem_of_getElem? ht
  have hall : (#[9, 3] : Array TypeId).all (fun t => !Tryd.prog.wantsStandIn t) = true := by kernel_rfl
  have this := (Array.all_eq_true_iff_forall_mem.1 hall) t hmem
  have h2 : Tryd.prog.wantsStandIn t = false := by simpa using this
  exact h2
theorem card : Rows.PlaceShardsCardSaid :=
  Claim7.holds_tied_plain_at .later [] _ _ _ _ said (fun _ h => by cases h) (by kernel_rfl) (fun _ h => by cases h) placeShards_row_tie rfl ⟨rfl, rfl⟩ (by kernel_rfl) rfl plain (by kernel_rfl)
end Go.Proofs.YtehdegekgdlifaaDoor.placeShardsC
