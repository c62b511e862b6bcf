/- slices.SortFunc of ops done, of dots: at this program. -/
import Derived.Test.YtpjkiomccpjboaaGreatDoorSortK
import Derived.Test.YtpjkiomccpjboaaGreatDoorCmpD
import Derived.Test.YtpjkiomccpjboaaGreatDoorShelf
namespace Go.Proofs.YtpjkiomccpjboaaGreatDoor
open Go Go.Sx Go.Sort Go.Proofs

theorem isAgg_done (w : World) : (isAgg 112).run Tryz.prog w = .ok true w := by simp [isAgg, run_underlying Tryz.underlying112, Result.andThen]
theorem isAgg_dot (w : World) : (isAgg 65).run Tryz.prog w = .ok true w := by simp [isAgg, run_underlying Tryz.underlying65, Result.andThen]
theorem size_of {P : Program} {t k : Nat} (h : (P.info? t).map (·.size) = some k) (w : World) : (Go.sizeOf t).run P w = .ok k w := by
  obtain ⟨i, hi, hs⟩ := Option.map_eq_some_iff.1 h
  simp [Go.sizeOf, typeInfo, hi, hs]
theorem sortsDone : SortsK Tryz.prog 95 11 := fun enc hk h1 cf hO g cb blk off cap d w eg hcmp hH hblk hsz hT =>
  AnyQ.slices_SortFunc_total Tryz.sortDone 11 isAgg_done (size_of (by kernel_rfl)) enc hk h1 cf hO g cb blk off cap d w eg hcmp hH hblk hsz hT
theorem sortsDot : SortsK Tryz.prog 66 3 := fun enc hk h1 cf hO g cb blk off cap d w eg hcmp hH hblk hsz hT =>
  AnyQ.slices_SortFunc_total Tryz.sortDot 3 isAgg_dot (size_of (by kernel_rfl)) enc hk h1 cf hO g cb blk off cap d w eg hcmp hH hblk hsz hT
theorem sortsDone0 : SortsNone Tryz.prog 95 := fun p cap fv w => AnyF.slices_SortFunc_none Tryz.sortDone p cap fv w
theorem sortsDot0 : SortsNone Tryz.prog 66 := fun p cap fv w => AnyF.slices_SortFunc_none Tryz.sortDot p cap fv w

theorem cells_done {us : List Value} {x : DoneT} (h : CellsOf us (eDone x)) : ∃ v, v.oneCell' = true ∧ (Value.agg us.toArray) = doneA x v := by
  obtain ⟨v, hv, hv1⟩ := h.one (j := 6) rfl
  refine ⟨v, hv1, ?_⟩
  have e : us = [.int .i64 x.o.no, .string x.o.key, .int .i64 x.o.kind, .string x.o.text, .int .i64 x.o.n, .bool x.o.remove, v, .int .i64 x.d.place, .int .i64 x.d.time, .int .i64 x.d.no, .int .i64 x.w] := by
    apply List.ext_getElem?
    intro j
    have hl := h.1
    match j with
    | 0 => exact h.plain rfl
    | 1 => exact h.plain rfl
    | 2 => exact h.plain rfl
    | 3 => exact h.plain rfl
    | 4 => exact h.plain rfl
    | 5 => exact h.plain rfl
    | 6 => exact hv
    | 7 => exact h.plain rfl
    | 8 => exact h.plain rfl
    | 9 => exact h.plain rfl
    | 10 => exact h.plain rfl
    | j + 11 => rw [List.getElem?_eq_none (by rw [hl]; simp), List.getElem?_eq_none (by simp)]
  rw [e]
theorem cells_dot {us : List Value} {x : DotT} (h : CellsOf us (eDot x)) : (Value.agg us.toArray) = dotV x := by
  have e : us = [.int .i64 x.place, .int .i64 x.time, .int .i64 x.no] := by
    apply List.ext_getElem?
    intro j
    have hl := h.1
    match j with
    | 0 => exact h.plain rfl
    | 1 => exact h.plain rfl
    | 2 => exact h.plain rfl
    | j + 3 => rw [List.getElem?_eq_none (by rw [hl]; simp), List.getElem?_eq_none (by simp)]
  rw [e]
theorem nodup_ne {α β : Type} {g : α → β} {l : List α} (hn : (l.map g).Nodup) {i j : Nat} {x y : α} (hij : i ≠ j) (hx : l[i]? = some x) (hy : l[j]? = some y) : g x ≠ g y := fun he => by
  have h1 : (l.map g)[i]? = some (g x) := by rw [List.getElem?_map, hx]; rfl
  have h2 : (l.map g)[j]? = some (g x) := by rw [List.getElem?_map, hy, he]; rfl
  exact hij ((List.getElem?_inj (List.getElem?_eq_some_iff.1 h1).1 hn).1 (h1.trans h2.symm))
theorem sortDoneAcc {w : World} {S : Nat → Prop} {M : List Nat} {a : Option Addr} {n c : Nat} {l : List DoneT} (hP : Pre w S M [cAcc (.slice a n c) 112 11 (l.map eDone)]) (hl : l.length ≤ 4000000) (hnd : (l.map (·.d)).Nodup) :
    Calls Tryz.prog 95 #[.slice a n c, .func (.func 96) #[] #[]] w fun e' w' => Ret M w S w' e' (.tuple #[]) [cAcc (.slice a n c) 112 11 ((sortDone l).map eDone)] [] := by
  refine sortAcc sortsDone sortsDone0 doneCmp _ #[] hP (by omega) (enters_of Tryz.func96 (by kernel_rfl) rfl) (fun x y _ _ us vs W hu hv => ?_) (fun x _ => ?_) (fun x y z _ _ _ h1 h2 => ?_) fun i j x y hij hx hy => ?_
  · obtain ⟨v1, o1, e1⟩ := cells_done hu
    obtain ⟨v2, o2, e2⟩ := cells_done hv
    rw [e1, e2]
    exact cmpDone (S := fun _ => True) o1 o2
  · rw [doneCmp_eq, lexC_self]; omega
  · rw [doneCmp_eq] at *
    exact lexC_trans h1 h2
  · have := nodup_ne hnd hij hx hy
    rcases doneLt_tri x y with h | h | h
    · exact .inl (by simpa [doneLt] using h)
    · exact absurd (doneKey_dot h) this
    · exact .inr (by simpa [doneLt] using h)
theorem sortDotAcc {w : World} {S : Nat → Prop} {M : List Nat} {a : Option Addr} {n c : Nat} {l : List DotT} (hP : Pre w S M [cAcc (.slice a n c) 65 3 (l.map eDot)]) (hl : l.length ≤ 4000000) (hnd : l.Nodup) :
    Calls Tryz.prog 66 #[.slice a n c, .func (.func 67) #[] #[]] w fun e' w' => Ret M w S w' e' (.tuple #[]) [cAcc (.slice a n c) 65 3 ((sortDots l).map eDot)] [] := by
  refine sortAcc sortsDot sortsDot0 dotCmp _ #[] hP (by omega) (enters_of Tryz.func67 (by kernel_rfl) rfl) (fun x y _ _ us vs W hu hv => ?_) (fun x _ => ?_) (fun x y z _ _ _ h1 h2 => ?_) fun i j x y hij hx hy => ?_
  · rw [cells_dot hu, cells_dot hv]
    exact cmpDot (S := fun _ => True)
  · rw [dotCmp_eq, lexC_self]; omega
  · rw [dotCmp_eq] at *
    exact lexC_trans h1 h2
  · have : x ≠ y := nodup_ne (g := id) (by simpa using hnd) hij hx hy
    rcases dotLt_tri x y with h | h | h
    · exact .inl (by simpa [dotLt] using h)
    · exact absurd h this
    · exact .inr (by simpa [dotLt] using h)
end Go.Proofs.YtpjkiomccpjboaaGreatDoor
