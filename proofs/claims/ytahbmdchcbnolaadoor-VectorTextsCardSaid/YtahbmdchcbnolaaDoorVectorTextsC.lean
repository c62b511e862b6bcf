/- VectorTexts returns true for every input, and turns nothing that was there: the given card, without a condition of ours. -/
import Derived.Test.YtahbmdchcbnolaaDoorCards
import Derived.Test.YtahbmdchcbnolaaDoorTie
import Derived.Test.YtahbmdchcbnolaaDoorVtT
import Derived.Test.YtahbmdchcbnolaaDoorTx9
import Derived.Test.YtahbmdchcbnolaaDoorLaidC
import Derived.Test.YtahbmdchcbnolaaDoorVtD
import Derived.WalkKit
import Derived.ProofKit
import Derived.OpenShut
import Derived.Deep.DeepHandedRow
import Derived.Deep.DeepWitnessRowRef
import Derived.Lib.LaidIn
import Derived.LaidHandle
import Derived.Lib.LaidTab
namespace Go.Proofs.YtahbmdchcbnolaaDoor.vectorTextsC
open Go Go.Sx Go.ChangeShapes Go.WideShapes Go.ChangeAt Go.RowKit Go.Lib

theorem ownK : ownKnob Tryd.prog.godebug = none := by kernel_rfl
theorem cellsTI : Tryd.prog.cellsOf 3 = 1 := by kernel_rfl
theorem laidO : laidOutB Tryd.prog = true := by kernel_rfl
theorem star : "*" ++ "errors.errorString" = "*errors.errorString" := by decide
theorem rowE (u : TypeId) (h : Tryd.prog.typeName? 3 u = some "*errors.errorString") : u = 135 :=
  typeName_ptr_named (nm := "errors.errorString") (by rw [star]; kernel_rfl) (by kernel_rfl) (by decide) u (by rw [star]; exact h)


/-- A world for the witness: the variables hold what their initialisers lay. -/
noncomputable def laidWorld (os : Os) : World :=
  let N := (World.settled Tryd.prog os).heap.size
  let w0 := World.holding Tryd.prog os ⟨#[.cells #[.string ⟨#[99, 97, 117, 115, 101, 119, 97, 121, 58, 32, 116, 101, 120, 116]⟩] 137, .cells #[.string ⟨#[99, 97, 117, 115, 101, 119, 97, 121, 58, 32, 98, 111, 117, 110, 100]⟩] 137, .cells #[.string ⟨#[99, 97, 117, 115, 101, 119, 97, 121, 58, 32, 115, 104, 97, 112, 101]⟩] 137, .cells #[.string ⟨#[99, 97, 117, 115, 101, 119, 97, 121, 58, 32, 110, 97, 109, 101]⟩] 137, .cells #[.string ⟨#[99, 97, 117, 115, 101, 119, 97, 121, 58, 32, 110, 111, 110, 101]⟩] 137, .cells #[.string ⟨#[99, 97, 117, 115, 101, 119, 97, 121, 58, 32, 101, 120, 105, 115, 116]⟩] 137, .cells #[.string ⟨#[99, 97, 117, 115, 101, 119, 97, 121, 58, 32, 102, 117, 108, 108]⟩] 137, .cells #[.string ⟨#[99, 97, 117, 115, 101, 119, 97, 121, 58, 32, 115, 117, 109]⟩] 137, .cells #[.string ⟨#[99, 97, 117, 115, 101, 119, 97, 121, 58, 32, 111, 108, 100]⟩] 137, .cells #[.string ⟨#[99, 97, 117, 115, 101, 119, 97, 121, 58, 32, 104, 101, 108, 100]⟩] 137, .cells #[.string ⟨#[99, 97, 117, 115, 101, 119, 97, 121, 58, 32, 119, 97, 105, 116]⟩] 137, .cells #[.string ⟨#[99, 97, 117, 115, 101, 119, 97, 121, 58, 32, 107, 105, 110, 100]⟩] 137, .cells #[.string ⟨#[118, 97, 108, 117, 101, 32, 111, 117, 116, 32, 111, 102, 32, 114, 97, 110, 103, 101]⟩] 137, .cells #[.string ⟨#[105, 110, 118, 97, 108, 105, 100, 32, 115, 121, 110, 116, 97, 120]⟩] 137], #[], []⟩
  let put (h : Array Obj) (g : Nat) (cs : Array Value) : Array Obj := h.modify g fun
    | .cells _ t frozen => .cells cs t frozen
    | o => o
  { w0 with heap := put (put (put (put (put (put (put (put (put (put (put (put (put (put (put (put (put (put (put (put (w0.heap) 19 #[.int .u8 0, .int .u8 1, .int .u8 28, .int .u8 2, .int .u8 29, .int .u8 14, .int .u8 24, .int .u8 3, .int .u8 30, .int .u8 22, .int .u8 20, .int .u8 15, .int .u8 25, .int .u8 17, .int .u8 4, .int .u8 8, .int .u8 31, .int .u8 27, .int .u8 13, .int .u8 23, .int .u8 21, .int .u8 19, .int .u8 16, .int .u8 7, .int .u8 26, .int .u8 12, .int .u8 18, .int .u8 6, .int .u8 11, .int .u8 5, .int .u8 10, .int .u8 9]) 20 #[.int .u8 0, .int .u8 1, .int .u8 56, .int .u8 2, .int .u8 57, .int .u8 49, .int .u8 28, .int .u8 3, .int .u8 61, .int .u8 58, .int .u8 42, .int .u8 50, .int .u8 38, .int .u8 29, .int .u8 17, .int .u8 4, .int .u8 62, .int .u8 47, .int .u8 59, .int .u8 36, .int .u8 45, .int .u8 43, .int .u8 51, .int .u8 22, .int .u8 53, .int .u8 39, .int .u8 33, .int .u8 30, .int .u8 24, .int .u8 18, .int .u8 12, .int .u8 5, .int .u8 63, .int .u8 55, .int .u8 48, .int .u8 27, .int .u8 60, .int .u8 41, .int .u8 37, .int .u8 16, .int .u8 46, .int .u8 35, .int .u8 44, .int .u8 21, .int .u8 52, .int .u8 32, .int .u8 23, .int .u8 11, .int .u8 54, .int .u8 26, .int .u8 40, .int .u8 15, .int .u8 34, .int .u8 20, .int .u8 31, .int .u8 10, .int .u8 25, .int .u8 14, .int .u8 19, .int .u8 9, .int .u8 13, .int .u8 8, .int .u8 7, .int .u8 6]) 15 #[.int .u64 1, .int .u64 10, .int .u64 100, .int .u64 1000, .int .u64 10000, .int .u64 100000, .int .u64 1000000, .int .u64 10000000, .int .u64 100000000, .int .u64 1000000000, .int .u64 10000000000, .int .u64 100000000000, .int .u64 1000000000000, .int .u64 10000000000000, .int .u64 100000000000000, .int .u64 1000000000000000, .int .u64 10000000000000000, .int .u64 100000000000000000, .int .u64 1000000000000000000, .int .u64 10000000000000000000]) 18 #[.int .u8 128, .int .u8 191, .int .u8 160, .int .u8 191, .int .u8 128, .int .u8 159, .int .u8 144, .int .u8 191, .int .u8 128, .int .u8 143, .int .u8 0, .int .u8 0, .int .u8 0, .int .u8 0, .int .u8 0, .int .u8 0, .int .u8 0, .int .u8 0, .int .u8 0, .int .u8 0, .int .u8 0, .int .u8 0, .int .u8 0, .int .u8 0, .int .u8 0, .int .u8 0, .int .u8 0, .int .u8 0, .int .u8 0, .int .u8 0, .int .u8 0, .int .u8 0]) 12 #[.iface 102 (.agg #[.pointer (some ⟨21, 25, none⟩)])]) 0 #[.iface 135 (.pointer (some ⟨N + 0, 0, none⟩))]) 2 #[.iface 135 (.pointer (some ⟨N + 1, 0, none⟩))]) 1 #[.iface 135 (.pointer (some ⟨N + 2, 0, none⟩))]) 3 #[.iface 135 (.pointer (some ⟨N + 3, 0, none⟩))]) 4 #[.iface 135 (.pointer (some ⟨N + 4, 0, none⟩))]) 5 #[.iface 135 (.pointer (some ⟨N + 5, 0, none⟩))]) 6 #[.iface 135 (.pointer (some ⟨N + 6, 0, none⟩))]) 7 #[.iface 135 (.pointer (some ⟨N + 7, 0, none⟩))]) 8 #[.iface 135 (.pointer (some ⟨N + 8, 0, none⟩))]) 9 #[.iface 135 (.pointer (some ⟨N + 9, 0, none⟩))]) 10 #[.iface 135 (.pointer (some ⟨N + 10, 0, none⟩))]) 11 #[.iface 135 (.pointer (some ⟨N + 11, 0, none⟩))]) 14 #[.iface 135 (.pointer (some ⟨N + 12, 0, none⟩))]) 13 #[.iface 135 (.pointer (some ⟨N + 13, 0, none⟩))]) 17 (Go.Pinned.utf8FirstZ.map fun (n : Nat) => Value.int .u8 (n : Int)).toArray }
noncomputable abbrev N0 : Nat := (World.settled Tryd.prog default).heap.size

theorem laid_met (os : Os) (args : Array Value) : laidMetH Tryd.prog Rows.vectorTextsRow.laid ((laidWorld os).forCall (fun _ _ => 0) ⟨#[], args, []⟩).memory :=
  laidMetH_of_parts (LaidIn.of_run [19, 20, 15, 18, 0, N0 + 0, 2, N0 + 1, 1, N0 + 2, 3, N0 + 3, 4, N0 + 4, 5, N0 + 5, 6, N0 + 6, 7, N0 + 7, 8, N0 + 8, 9, N0 + 9, 10, N0 + 10, 11, N0 + 11, 14, N0 + 12, 13, N0 + 13, 17] 8 (by kernel_rfl) (by kernel_rfl) (by kernel_rfl) (by kernel_rfl)).met (by kernel_rfl)

set_option maxRecDepth 100000 in
theorem contract (H : Type) (enc : TypeId × Value → H) (W : World) (base : Nat) (args : Array Value) (ds gs : List (DataW H)) (before : List MemPlace)
    (hval : ∀ (j : Nat) t v, Tryd.f3.params[j]? = some t → args[j]? = some v → Value.okWide Tryd.prog W .any base t v)
    (hW : DataW.Whole enc Tryd.prog Tryd.f3.params.toList Rows.vectorTextsSpec.vars false W args.toList ds gs before) (hL : laidMetH Tryd.prog Rows.vectorTextsRow.laid W) :
    Calls Tryd.prog 3 args W fun e W' => ∃ v, e = .returned v ∧ Rows.vectorTextsSpec.post enc Tryd.prog Tryd.f3 false true false false W args v W' := by
  have hW' := hW
  obtain ⟨p, q, hA0, hV, rfl, hfz, hnd⟩ := hW
  have hA : DataW.TrodAll enc Tryd.prog W 0 (fun _ => true) true Tryd.f3.params.toList args.toList ds p := hA0
  rw [Tryd.params3] at hA hval
  obtain ⟨v0, vs0, d0, ds0, p0, q0, hargs, rfl, rfl, h0, r0⟩ := trodAll_cons hA
  obtain ⟨v1, vs1, d1, ds1, p1, q1, rfl, rfl, rfl, h1, r1⟩ := trodAll_cons r0
  obtain ⟨rfl, rfl, rfl⟩ := trodAll_nil r1
  obtain rfl : args = #[v0, v1] := by cases args; simp_all
  obtain ⟨ad0, zs0, c0, rfl, hz0, hb0, hl0⟩ := open_intsRep Tryd.underlying22 Tryd.underlying3 cellsTI (hval 0 22 v0 rfl rfl) h0
  obtain ⟨zs1, rfl, hz1⟩ := openStr (hval 1 9 v1 rfl rfl) h1
  clear hA0
  have hL1 : laidMet Tryd.prog allT W := hL.1
  have h12 := hL1.filter fun x => ns12.any fun y => y.1 == x.1
  rw [all12] at h12
  obtain ⟨er, eb, hC, hI⟩ := dC_of h12 hL.2
  obtain ⟨o, e1, e2, hT, hO⟩ := dT_of hL1
  refine (vectorTexts hC hI hT hO hz0).mono fun e W' hR => ⟨_, hR.ret, law_post (tb := 4) laidO (by kernel_rfl) Tryd.underlying4 rfl rfl hW' (fun gs h => by subst h; rfl) (below_zero hR.fr)⟩

set_option maxRecDepth 100000 in
theorem lifted (os : Os) (started : os.Started) (H : Type) (enc : TypeId × Value → H) (F : Stop.Interp) :
    ReturnsInHanded {} Tryd.checked os 3 .any ((OpenSpec.ofChange Rows.vectorTextsSpec).preRow enc Tryd.prog Tryd.f3 Rows.vectorTextsRow.domain false Rows.vectorTextsRow.laid) (((OpenSpec.ofChange Rows.vectorTextsSpec).at F).post enc Tryd.prog Tryd.f3 false true false false) := by
  have hw : (DataW.whole enc Tryd.prog ((laidWorld os).forCall (fun _ _ => 0) ⟨#[], #[.slice none 0 0, .string ⟨#[]⟩], []⟩).memory Tryd.f3.params.toList Rows.vectorTextsSpec.vars false (#[.slice none 0 0, .string ⟨#[]⟩] : Array Value).toList 8).map (fun x => (x.1, x.2.1)) =
      some ([.nil, .lit (.string [])], []) := by kernel_rfl
  obtain ⟨⟨x1, x2, x3⟩, hx, hx1⟩ := Option.map_eq_some_iff.1 hw
  simp only [Prod.mk.injEq] at hx1
  obtain ⟨rfl, rfl⟩ := hx1
  refine returnsInHanded_of_row (C := Tryd.checked) (s := OpenSpec.ofChange Rows.vectorTextsSpec) ownK started (by kernel_rfl) Tryd.func3
    (witness_row_atRef (enc := enc) (C := Tryd.checked) false (laidWorld os) #[.slice none 0 0, .string ⟨#[]⟩] rfl (by kernel_rfl) (by kernel_rfl) (by kernel_rfl)
      (OpenSpec.preRow_of_cond 8 hx (by kernel_rfl) (fun k hk => by cases hk) (by kernel_rfl) (laid_met os _))) ?_
  intro W base args ds gs before hval hW _ _ _ hL _ _
  exact contract H enc W base args ds gs before hval hW hL

theorem cl1 : laidOutB Tryd.pinned.checked.prog = true := by kernel_rfl
theorem cl2 : mapsRowed Tryd.pinned.checked.prog = true := by kernel_rfl
theorem cl3 : (Rows.vectorTextsRow.inPlace == Tryd.pinned.checked.prog.inPlace 3) = true := by kernel_rfl
theorem cl4 : (Rows.vectorTextsRow.unfollowed == Tryd.pinned.checked.prog.unfollowed 3) = true := by kernel_rfl
theorem cl5 : (Rows.vectorTextsRow.recurses == Tryd.pinned.checked.prog.recurses 3) = true := by kernel_rfl
theorem cl6 : (Rows.vectorTextsRow.named == Tryd.pinned.checked.prog.varsNamed 3) = true := by kernel_rfl
theorem closed : joinedFacts Tryd.pinned.checked.prog 3 Tryd.f3 (OpenSpec.ofChange Rows.vectorTextsSpec).bare Rows.vectorTextsRow = true := by
  unfold joinedFacts
  rw [cl1, cl2, cl3, cl4, cl5, cl6]
  kernel_rfl
theorem hinst : Tryd.f3.isInstance Tryd.pinned.checked.prog Rows.vectorTextsRow.origin Rows.vectorTextsRow.targs := of_decide_eq_true (by kernel_rfl)
theorem hwrap : Tryd.f3.isWrapper Tryd.pinned.checked.prog Rows.vectorTextsRow.wrapper Rows.vectorTextsRow.mainSum := by unfold Func.isWrapper; first | (rw [if_pos (by decide +kernel)]; kernel_rfl) | (rw [if_neg (by decide +kernel)]; exact ⟨rfl, rfl⟩)
theorem said : Rows.VectorTextsSaid :=
  OpenClaim.holds_of_cond 3 Tryd.f3 rfl rfl rfl rfl rfl rfl rfl ⟨rfl, rfl, rfl, rfl, rfl⟩ rfl rfl rfl rfl rfl (by kernel_rfl) Tryd.func3 closed hinst hwrap
    (fun os started H enc _ F => by rw [OpenClaim.pre_eq_preRow]; exact lifted os started H enc F)

theorem plain (f : FuncId) (fn : Func) (hf : Tryd.pinned.checked.prog.funcNamed "causeway/causewaylaw1.VectorTexts" = some f) (hfn : Tryd.pinned.checked.prog.funcs[f]? = some fn) :
    true = Tryd.pinned.checked.prog.looks [] ∧ ∀ (j : Nat) t, fn.params[j]? = some t → Tryd.pinned.checked.prog.wantsStandIn t = false := by
  obtain rfl : f = 3 := Option.some.inj ((show Tryd.prog.funcNamed "causeway/causewaylaw1.VectorTexts" = some 3 by kernel_rfl).symm.trans hf) |>.symm
  obtain rfl : fn = Tryd.f3 := (Option.some.inj (Tryd.func3.symm.trans hfn)).symm
  refine ⟨by kernel_rfl, fun j t ht => ?_⟩
  rw [Tryd.params3] at ht
  have hmem := Array.mem_of_getElem? ht
  have hall : (#[22, 9] : Array TypeId).all (fun t => !Tryd.prog.wantsStandIn t) = true := by kernel_rfl
  have this := (Array.all_eq_true_iff_forall_mem.1 hall) t hmem
  have h2 : Tryd.prog.wantsStandIn t = false := by simpa using this
  exact h2

/-- The card. -/
theorem card : Rows.VectorTextsCardSaid :=
  Claim7.holds_tied_plain_at .later [] _ _ _ _ said (fun _ h => by cases h) (by kernel_rfl) (fun _ h => by cases h) vectorTexts_row_tie rfl ⟨rfl, rfl⟩ (by kernel_rfl) rfl plain (by kernel_rfl)
end Go.Proofs.YtahbmdchcbnolaaDoor.vectorTextsC
