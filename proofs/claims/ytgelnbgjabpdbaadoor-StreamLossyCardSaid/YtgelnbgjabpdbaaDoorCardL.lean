/- StreamLossy returns true for every number of beats, whatever is lost and whenever it is acked, and turns nothing that was there: the given card, without a condition of ours. -/
import Derived.Test.YtgelnbgjabpdbaaDoorCards
import Derived.Test.YtgelnbgjabpdbaaDoorTie
import Derived.Test.YtgelnbgjabpdbaaDoorLossy
import Derived.Deep.Grids
import Derived.Test.YtgelnbgjabpdbaaDoorSx12
import Derived.WalkKit
import Derived.ProofKit
import Derived.OpenShut
import Derived.Deep.DeepHandedRow
import Derived.Deep.DeepWitnessRowRef
import Derived.Lib.LaidIn
import Derived.Lib.LaidTab
namespace Go.Proofs.YtgelnbgjabpdbaaDoor
open Go Go.Sx Go.ChangeShapes Go.WideShapes Go.ChangeAt Go.RowKit Go.Lib

theorem ownK : ownKnob Tryd.prog.godebug = none := by kernel_rfl
theorem cellsT4 : Tryd.prog.cellsOf 4 = 1 := by kernel_rfl
theorem laidO : laidOutB Tryd.prog = true := by kernel_rfl

/-- A world for the witness: the variables hold what their initialisers lay. -/
noncomputable def laidWorld (os : Os) : World :=
  let N := (World.settled Tryd.prog os).heap.size
  let w0 := World.holding Tryd.prog os ⟨#[
    .cells #[.string ⟨#[99, 97, 117, 115, 101, 119, 97, 121, 58, 32, 98, 111, 117, 110, 100]⟩] 189, .cells #[.string ⟨#[99, 97, 117, 115, 101, 119, 97, 121, 58, 32, 115, 104, 97, 112, 101]⟩] 189,
    .cells #[.string ⟨#[99, 97, 117, 115, 101, 119, 97, 121, 58, 32, 102, 117, 108, 108]⟩] 189, .cells #[.string ⟨#[99, 97, 117, 115, 101, 119, 97, 121, 58, 32, 111, 108, 100]⟩] 189], #[], []⟩
  let put (h : Array Obj) (g : Nat) (cs : Array Value) : Array Obj := h.modify g fun
    | .cells _ t frozen => .cells cs t frozen
    | o => o
  { w0 with heap := put (put (put (put w0.heap 0 #[.iface 168 (.pointer (some ⟨N, 0, none⟩))]) 2 #[.iface 168 (.pointer (some ⟨N + 1, 0, none⟩))]) 3 #[.iface 168 (.pointer (some ⟨N + 2, 0, none⟩))]) 1 #[.iface 168 (.pointer (some ⟨N + 3, 0, none⟩))] }
noncomputable abbrev N0 : Nat := (World.settled Tryd.prog default).heap.size

theorem laid_metC (os : Os) (args : Array Value) : laidMet Tryd.prog Rows.streamLossyRow.laid ((laidWorld os).forCall (fun _ _ => 0) ⟨#[], args, []⟩).memory :=
  (LaidIn.of_run [0, N0, 2, N0 + 1, 3, N0 + 2, 1, N0 + 3] 8 (by kernel_rfl) (by kernel_rfl) (by kernel_rfl) (by kernel_rfl)).met

/-- A parameter that is a slice of truth values. -/
theorem open_boolsAt {H : Type} {enc : TypeId × Value → H} {P : Program} {W : World} {base : Nat} {t e : TypeId} {v : Value} {d : DataW H} {ps : List MemPlace} (ht : P.underlying t = some (.slice e)) (he : P.underlying e = some .bool) (hc : P.cellsOf e = 1)
    (hv : Value.okWide P W .any base t v) (h : DataW.Trod enc P W 0 (fun _ => true) true t v d ps) : ∃ ad zs c, v = .slice ad (List.length zs) c ∧ BoolsAt W ad zs := by
  obtain ⟨a0, len, cap, rfl⟩ := okWide_slice ht hv
  obtain ⟨fuel, hf⟩ := h
  rcases Go.Deep.open_bools ht he hc hf with ⟨hcs, hx⟩ | ⟨a, len', cap', B, hcs, _, hl, hm, hx, hcell⟩
  · simp [Value.cells] at hcs
    obtain ⟨rfl, rfl, rfl⟩ := hcs
    exact ⟨none, [], 0, rfl, fun h => absurd rfl h⟩
  · simp [Value.cells] at hcs
    obtain ⟨rfl, rfl, rfl⟩ := hcs
    refine ⟨some a, (List.range len).map B, cap, by simp, fun hne => ?_⟩
    have hpos : 0 < len := by
      rcases len with _ | len
      · simp at hne
      · simp
    obtain ⟨cs, ty, fz, hb, hs, _⟩ := cell_blk (hcell 0 (by omega))
    have e0 : a.add 0 = a := by simp [Addr.add]
    rw [e0] at hb hs
    obtain ⟨b, off, sp⟩ := a
    simp only at hb hs
    subst hs
    refine ⟨b, off, cs, ty, fz, rfl, hb, fun i z hi => ?_⟩
    rw [List.getElem?_map] at hi
    obtain ⟨q, hq, rfl⟩ := Option.map_eq_some_iff.1 hi
    have hlt : i < len := by simpa using (List.getElem?_eq_some_iff.1 hq).1
    have hqj : q = i := by rw [List.getElem?_range hlt] at hq; exact (Option.some.inj hq).symm
    subst hqj
    obtain ⟨cs', ty', fz', hb', _, hc'⟩ := cell_blk (hcell q (by omega))
    rw [addr_add] at hb' hc'
    simp only at hb' hc'
    rw [hb] at hb'
    cases hb'
    exact hc'

namespace lossy
set_option maxRecDepth 100000 in
theorem contract (H : Type) (enc : TypeId × Value → H) (W : World) (base : Nat) (args : Array Value) (ds gs : List (DataW H)) (before : List MemPlace)
    (hval : ∀ (j : Nat) t v, Tryd.f4.params[j]? = some t → args[j]? = some v → Value.okWide Tryd.prog W .any base t v)
    (hW : DataW.Whole enc Tryd.prog Tryd.f4.params.toList Rows.streamLossySpec.vars false W args.toList ds gs before) :
    Calls Tryd.prog 4 args W fun e W' => ∃ v, e = .returned v ∧ Rows.streamLossySpec.post enc Tryd.prog Tryd.f4 false true false false W args v W' := by
  have hW' := hW
  obtain ⟨p, q, hA0, hV, rfl, hfz, hnd⟩ := hW
  have hA : DataW.TrodAll enc Tryd.prog W 0 (fun _ => true) true Tryd.f4.params.toList args.toList ds p := hA0
  rw [Tryd.params4] at hA hval
  obtain ⟨v0, vs0, d0, ds0, p0, q0, hargs, rfl, rfl, h0, r0⟩ := trodAll_cons hA
  obtain ⟨v1, vs1, d1, ds1, p1, q1, rfl, rfl, rfl, h1, r1⟩ := trodAll_cons r0
  obtain ⟨v2, vs2, d2, ds2, p2, q2, rfl, rfl, rfl, h2, r2⟩ := trodAll_cons r1
  obtain ⟨rfl, rfl, rfl⟩ := trodAll_nil r2
  obtain rfl : args = #[v0, v1, v2] := by cases args; simp_all
  obtain ⟨n, rfl, rfl, rfl, w0⟩ := open_int Tryd.underlying3 (hval 0 3 v0 rfl rfl) h0
  obtain ⟨la, ls, lc, rfl, hls⟩ := open_boolsAt Tryd.underlying46 Tryd.underlying4 cellsT4 (hval 1 46 v1 rfl rfl) h1
  obtain ⟨aa, ks, ac, rfl, hks⟩ := open_boolsAt Tryd.underlying46 Tryd.underlying4 cellsT4 (hval 2 46 v2 rfl rfl) h2
  clear hA0
  refine (lossy4 (n := n) (lc := lc) (ac := ac) hls hks).mono fun e W' ⟨he, hg⟩ => ⟨_, he, law_post (tb := 4) laidO (by kernel_rfl) Tryd.underlying4 rfl rfl hW' (fun gs h => by subst h; rfl) hg.below⟩

set_option maxRecDepth 100000 in
theorem lifted (os : Os) (started : os.Started) (H : Type) (enc : TypeId × Value → H) (F : Stop.Interp) :
    ReturnsInHanded {} Tryd.checked os 4 .any ((OpenSpec.ofChange Rows.streamLossySpec).preRow enc Tryd.prog Tryd.f4 Rows.streamLossyRow.domain false Rows.streamLossyRow.laid) (((OpenSpec.ofChange Rows.streamLossySpec).at F).post enc Tryd.prog Tryd.f4 false true false false) := by
  have hw : (DataW.whole enc Tryd.prog ((laidWorld os).forCall (fun _ _ => 0) ⟨#[], #[.int .i64 0, .slice none 0 0, .slice none 0 0], []⟩).memory Tryd.f4.params.toList Rows.streamLossySpec.vars false #[Value.int .i64 0, Value.slice none 0 0, Value.slice none 0 0].toList 8).map (fun x => (x.1, x.2.1)) =
      some ([.lit (.int .i64 0), .nil, .nil], []) := by kernel_rfl
  obtain ⟨⟨x1, x2, x3⟩, hx, hx1⟩ := Option.map_eq_some_iff.1 hw
  simp only [Prod.mk.injEq] at hx1
  obtain ⟨rfl, rfl⟩ := hx1
  refine returnsInHanded_of_row (C := Tryd.checked) (s := OpenSpec.ofChange Rows.streamLossySpec) ownK started (by kernel_rfl) Tryd.func4
    (witness_row_atRef (enc := enc) (C := Tryd.checked) false (laidWorld os) #[.int .i64 0, .slice none 0 0, .slice none 0 0] rfl (by kernel_rfl) (by kernel_rfl) (by kernel_rfl)
      (OpenSpec.preRow_of_cond 8 hx (by kernel_rfl) (fun k hk => by cases hk) (by kernel_rfl) (laid_metC os _))) ?_
  intro W base args ds gs before hval hW _ _ _ _ _ _
  exact contract H enc W base args ds gs before hval hW

theorem said : Rows.StreamLossySaid :=
  OpenClaim.holds_of_cond 4 Tryd.f4 rfl rfl rfl rfl rfl rfl rfl ⟨rfl, rfl, rfl, rfl, rfl⟩ rfl rfl rfl rfl rfl (by kernel_rfl) Tryd.func4 (by kernel_rfl)
    (of_decide_eq_true (by kernel_rfl)) (by unfold Func.isWrapper; first | (rw [if_pos (by decide +kernel)]; kernel_rfl) | (rw [if_neg (by decide +kernel)]; exact ⟨rfl, rfl⟩))
    (fun os started H enc _ F => by rw [OpenClaim.pre_eq_preRow]; exact lifted os started H enc F)

theorem plain (f : FuncId) (fn : Func) (hf : Tryd.pinned.checked.prog.funcNamed "causeway/causewaylaw2.StreamLossy" = some f) (hfn : Tryd.pinned.checked.prog.funcs[f]? = some fn) :
    true = Tryd.pinned.checked.prog.looks [] ∧ ∀ (j : Nat) t, fn.params[j]? = some t → Tryd.pinned.checked.prog.wantsStandIn t = false := by
  obtain rfl : f = 4 := Option.some.inj ((show Tryd.prog.funcNamed "causeway/causewaylaw2.StreamLossy" = some 4 by kernel_rfl).symm.trans hf) |>.symm
  obtain rfl : fn = Tryd.f4 := (Option.some.inj (Tryd.func4.symm.trans hfn)).symm
  refine ⟨by kernel_rfl, fun j t ht => ?_⟩
  rw [Tryd.params4] at ht
  have hmem := Array.mem_of_getElem? ht
  have : ∀ t ∈ (#[3, 46, 46] : Array TypeId), Tryd.prog.wantsStandIn t = false := by
    intro t ht
    simp at ht
    rcases ht with rfl | rfl
    · exact (show Tryd.prog.wantsStandIn 3 = false by kernel_rfl)
    · exact (show Tryd.prog.wantsStandIn 46 = false by kernel_rfl)
  exact this t hmem

/-- The card. -/
theorem card : Rows.StreamLossyCardSaid :=
  Claim7.holds_tied_plain_at .later [] _ _ _ _ said (fun _ h => by cases h) (by kernel_rfl) (fun _ h => by cases h) streamLossy_row_tie rfl ⟨rfl, rfl⟩ (by kernel_rfl) rfl plain (by kernel_rfl)
end lossy
end Go.Proofs.YtgelnbgjabpdbaaDoor
