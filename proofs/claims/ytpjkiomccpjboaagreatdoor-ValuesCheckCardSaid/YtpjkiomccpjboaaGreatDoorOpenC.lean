/- Parameters that are structs: an op, a commit. -/
import Derived.Test.YtpjkiomccpjboaaGreatDoorOpen
import Derived.Test.YtpjkiomccpjboaaGreatDoorOpErr2
namespace Go.Proofs.YtpjkiomccpjboaaGreatDoor
open Go Go.Sx Go.ChangeShapes Go.WideShapes

theorem Opens.agg {P : Program} {W : World} {t : TypeId} {k : Nat} {α : Type} {E : α → List D} {ok : α → Prop} {H : Type} {enc : TypeId × Value → H} {fs : Array Field} {base : Nat} {v : Value} {d : DataW H} {ps : List MemPlace} (h : Opens P W t k E ok) (ht : P.underlying t = some (.struct fs)) (hv : Value.okWide P W .any base t v)
    (hx : DataW.Trod enc P W 0 (fun _ => true) true t v d ps) : ∃ (cs : List Value) (a : α), v = .agg ⟨cs⟩ ∧ cs.length = k ∧ ok a ∧ ∀ (j : Nat) d, (E a)[j]? = some d → ∃ u, cs[j]? = some u ∧ Rep W (fun _ => True) u d := by
  obtain ⟨cs, rfl, _⟩ := okWide_struct ht hv
  obtain ⟨fuel, hf⟩ := hx
  obtain ⟨a, h1, _, h2, h3⟩ := h.op hf
  refine ⟨cs.toList, a, rfl, ?_, h1, ?_⟩
  · simpa [Value.cells] using h2
  · intro j d hj
    obtain ⟨u, hu, hr⟩ := h3 j d hj
    exact ⟨u, by simpa [Value.cells] using hu, hr⟩
theorem rep_slice {w : World} {S : Nat → Prop} {u : Value} {k : Nat} {rows : List (List D)} (h : Rep w S u (.sl k rows)) : ∃ a n c, u = .slice a n c := by
  cases h <;> exact ⟨_, _, _, rfl⟩
theorem at_v {w : World} {S : Nat → Prop} {cs : List Value} {E : List D} {x : Value} (h : ∀ (j : Nat) d, E[j]? = some d → ∃ u, cs[j]? = some u ∧ Rep w S u d) (j : Nat) (hj : E[j]? = some (.v x)) : cs[j]? = some x := by
  obtain ⟨u, hu, hr⟩ := h j _ hj
  rw [hu, hr.plain]
set_option maxRecDepth 100000 in
theorem openOp {W : World} {H : Type} {enc : TypeId × Value → H} {base : Nat} {v : Value} {d : DataW H} {ps : List MemPlace} (hv : Value.okWide Tryz.prog W .any base 24 v) (hx : DataW.Trod enc Tryz.prog W 0 (fun _ => true) true 24 v d ps) :
    ∃ (o : OpT) (a : Option Addr) (n c : Nat), v = opA o (.slice a n c) ∧ OkOp o ∧ Rep W (fun _ => True) (.slice a n c) (.sl 3 (o.dots.map eDot)) := by
  obtain ⟨cs, o, rfl, hl, hok, hat⟩ := Opens.agg (opOp (W := W)) Tryz.underlying24 hv hx
  have h0 := at_v hat 0 rfl
  have h1 := at_v hat 1 rfl
  have h2 := at_v hat 2 rfl
  have h3 := at_v hat 3 rfl
  have h4 := at_v hat 4 rfl
  have h5 := at_v hat 5 rfl
  obtain ⟨u, h6, hr⟩ := hat 6 _ rfl
  obtain ⟨a, n, c, rfl⟩ := rep_slice hr
  match cs, hl with
  | [c0, c1, c2, c3, c4, c5, c6], _ =>
    simp at h0 h1 h2 h3 h4 h5 h6
    subst h0 h1 h2 h3 h4 h5 h6
    exact ⟨o, a, n, c, rfl, hok, hr⟩
set_option maxRecDepth 100000 in
theorem openCom {W : World} {H : Type} {enc : TypeId × Value → H} {base : Nat} {v : Value} {d : DataW H} {ps : List MemPlace} (hv : Value.okWide Tryz.prog W .any base 28 v) (hx : DataW.Trod enc Tryz.prog W 0 (fun _ => true) true 28 v d ps) :
    ∃ (o : ComT) (a1 a2 : Option Addr) (n1 c1 n2 c2 : Nat), v = .agg #[.slice a1 n1 c1, .int .i64 o.place, .slice a2 n2 c2] ∧ OkCom o ∧ Rep W (fun _ => True) (.slice a1 n1 c1) (dInts o.when) ∧ Rep W (fun _ => True) (.slice a2 n2 c2) (.sl 7 (o.ops.map eOp)) := by
  obtain ⟨cs, o, rfl, hl, hok, hat⟩ := Opens.agg (opCom (W := W)) Tryz.underlying28 hv hx
  obtain ⟨u, h0, hr0⟩ := hat 0 _ rfl
  have h1 := at_v hat 1 rfl
  obtain ⟨u2, h2, hr2⟩ := hat 2 _ rfl
  obtain ⟨a1, n1, c1, rfl⟩ := rep_slice hr0
  obtain ⟨a2, n2, c2, rfl⟩ := rep_slice hr2
  match cs, hl with
  | [x0, x1, x2], _ =>
    simp at h0 h1 h2
    subst h0 h1 h2
    exact ⟨o, a1, a2, n1, c1, n2, c2, rfl, hok, hr0, hr2⟩
end Go.Proofs.YtpjkiomccpjboaaGreatDoor
