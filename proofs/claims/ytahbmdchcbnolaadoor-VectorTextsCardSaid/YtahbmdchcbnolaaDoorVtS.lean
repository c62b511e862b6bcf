import Derived.RangeFuncLeaves
import Derived.RangeFuncOwn
import Derived.RangeFuncBound
import Derived.RangeFuncBox
import Derived.Shelf.Abstract
import Derived.WalkKit
import Derived.OwnWalkIn
import Derived.TacticsInMore
import Derived.LoopNIn
import Derived.LoopIn
import Derived.Below
import Derived.Lib.Bytealg
import Derived.Lib.IndexLaws
import Derived.Test.YtahbmdchcbnolaaDoorProg
import Derived.Test.YtahbmdchcbnolaaDoorVtP
namespace Go.Proofs.YtahbmdchcbnolaaDoor
open Go Go.RowKit Go.Shelf Go.Sx
attribute [local go_sem] Oper.semAt_some

/-- The blocks of the three boxes, of the rounds' calls put off and of the loop's record stay. -/
def KeptR (B : Nat) (W W' : World) : Prop := ∀ k, B ≤ k → k < B + 5 → W'.heap[k]? = W.heap[k]?
theorem KeptR.cell {B : Nat} {W W' : World} (h : KeptR B W W') {k : Nat} (h1 : B ≤ k) (h2 : k < B + 5) : W'.cell? ⟨k, 0, none⟩ = W.cell? ⟨k, 0, none⟩ := World.cell?_of_block (w := W) (h k h1 h2)
theorem KeptR.frozen {B : Nat} {W W' : World} (h : KeptR B W W') {k : Nat} (h1 : B ≤ k) (h2 : k < B + 5) : W'.frozen? ⟨k, 0, none⟩ = W.frozen? ⟨k, 0, none⟩ := World.frozen?_of_block (w := W) (h k h1 h2)
def boxLeft (sb : Nat) (W : World) : Nat := match W.cell? ⟨sb, 0, none⟩ with
  | some (.string r) => r.size
  | _ => 0
set_option maxRecDepth 100000 in
set_option maxHeartbeats 2000000 in
theorem seq_in (hidx : ∀ (s : ByteArray) (w : World), Calls Tryd.prog 44 #[.string s, .string ⟨#[46]⟩] w fun e w' => e = .returned (.int .i64 (Lib.indexByte s.data.toList 46)) ∧ w' = w)
    (n : Nat) (hn : 1 ≤ n) (l B : Nat) (s : ByteArray) (J Jx : List ByteArray → World → Prop) (hsz : s.size ≤ 1000000)
    (hJs : ∀ pre W v, J pre W → J pre (W.setCell ⟨B, 0, none⟩ v))
    (hY : ∀ pre x W, J pre W → x.size ≤ 1000000 → YieldAt Fence.wide (n - 1) Tryd.prog l #[.string x] W fun e W' => (e = .returned (.bool true) ∧ J (pre ++ [x]) W' ∧ KeptR B W W') ∨ (e = .returned (.bool false) ∧ Jx (pre ++ [x]) W'))
    (W : World) (hS : W.cell? ⟨B, 0, none⟩ = some (.string s)) (hfz : W.frozen? ⟨B, 0, none⟩ = false) (hC : W.cell? ⟨B + 1, 0, none⟩ = some (.string ⟨#[46]⟩)) (hK : W.cell? ⟨B + 2, 0, none⟩ = some (.int .i64 0)) (h0 : J [] W) :
    CallsIn Fence.wide n Tryd.prog 42 #[.func (.yield l) #[] #[], .pointer (some ⟨B + 1, 0, none⟩), .pointer (some ⟨B, 0, none⟩), .pointer (some ⟨B + 2, 0, none⟩)] W fun e W' => (∃ v, e = .returned v) ∧ (J (pieces 46 s) W' ∨ ∃ pre, pre <+: pieces 46 s ∧ Jx pre W') := by
  refine callsIn_of_wp Tryd.func42 rfl trivial ?_ rfl
  simp only [Tryd.ntmps42, List.size_toArray, List.length_cons, List.length_nil, Nat.reduceAdd, Nat.reduceSub, Array.replicate_succ, Array.replicate_zero, List.push_toArray, List.append_toArray, List.nil_append, List.cons_append]
  gi_wp2
  gi_loopw [] (fun wr => ∃ (pre : List ByteArray) (r : ByteArray), pre ++ pieces 46 r = pieces 46 s ∧ r.size ≤ 1000000 ∧ J pre wr ∧ wr.cell? ⟨B, 0, none⟩ = some (.string r) ∧ wr.frozen? ⟨B, 0, none⟩ = false ∧ wr.cell? ⟨B + 1, 0, none⟩ = some (.string ⟨#[46]⟩) ∧ wr.cell? ⟨B + 2, 0, none⟩ = some (.int .i64 0)) (fun wr => boxLeft B wr)
  case atStart => exact ⟨[], s, rfl, hsz, h0, hS, hfz, hC, hK⟩
  case round =>
    obtain ⟨pre, r, hp, hr, hJ, hrS, hrF, hrC, hrK⟩ := hrel
    by_cases hi : Lib.indexByte r.data.toList 46 < 0
    · rw [pieces_none hi] at hp
      obtain ⟨fn, tmps, assign, body, hy, hR⟩ := hY pre r wr hJ hr
      gi_wp2_with (refine ⟨trivial, ?_⟩; gi_at_call 44; refine (callsIn_wide.2 (hidx _ _)).mono ?_; rintro e w' ⟨rfl, rfl⟩)
      refine hR.mono ?_
      rintro e W3 (⟨rfl, hJ3, _⟩ | ⟨rfl, hJx3⟩)
      · gi_wp2
        go_end0
        exact ⟨⟨_, rfl⟩, .inl (by rw [← hp]; exact hJ3)⟩
      · gi_wp2
        go_end0
        exact ⟨⟨_, rfl⟩, .inr ⟨pre ++ [r], by rw [hp]; exact List.prefix_refl _, hJx3⟩⟩
    · obtain ⟨i, hi2⟩ : ∃ i, Lib.indexByte r.data.toList 46 = i := ⟨_, rfl⟩
      have hi0 : 0 ≤ i := by omega
      obtain ⟨hlt, hpc⟩ := pieces_some hi2 hi0
      obtain ⟨fn, tmps, assign, body, hy, hR⟩ := hY pre (r.extract 0 i.toNat) wr hJ (by rw [ByteArray.size_extract]; omega)
      rw [hi2] at hi
      gi_wp2_with (refine ⟨trivial, ?_⟩; gi_at_call 44; refine (callsIn_wide.2 (hidx _ _)).mono ?_; rintro e w' ⟨rfl, rfl⟩; rw [hi2])
      refine hR.mono ?_
      rintro e W3 (⟨rfl, hJ3, hk3⟩ | ⟨rfl, hJx3⟩)
      · have hS3 : W3.cell? ⟨B, 0, none⟩ = some (.string r) := (hk3.cell (k := B) (by omega) (by omega)).trans hrS
        have hC3 : W3.cell? ⟨B + 1, 0, none⟩ = some (.string ⟨#[46]⟩) := (hk3.cell (k := B + 1) (by omega) (by omega)).trans hrC
        have hK3 : W3.cell? ⟨B + 2, 0, none⟩ = some (.int .i64 0) := (hk3.cell (k := B + 2) (by omega) (by omega)).trans hrK
        have hF3 : W3.frozen? ⟨B, 0, none⟩ = false := (hk3.frozen (k := B) (by omega) (by omega)).trans hrF
        gi_wp2
        have hS4 := World.cell?_setCell_same' W3 ⟨B, 0, none⟩ (.string (r.extract (i + 1).toNat r.size)) (by rw [hS3]; rfl)
        have e1 : (i + 1).toNat = i.toNat + 1 := by omega
        refine ⟨⟨pre ++ [r.extract 0 i.toNat], r.extract (i + 1).toNat r.size, ?_, ?_, hJs _ _ _ hJ3, hS4, by rw [World.frozen?_setCell]; exact hF3, ?_, ?_⟩, ?_⟩
        · rw [← hp, hpc, e1]
          simp
        · rw [ByteArray.size_extract]
          omega
        · exact (World.cell?_setCell_other W3 ⟨B, 0, none⟩ ⟨B + 1, 0, none⟩ _ (fun h => absurd (congrArg Addr.block h) (by simp))).trans hC3
        · exact (World.cell?_setCell_other W3 ⟨B, 0, none⟩ ⟨B + 2, 0, none⟩ _ (fun h => absurd (congrArg Addr.block h) (by simp))).trans hK3
        · unfold boxLeft
          rw [hS4, hrS]
          simp only [ByteArray.size_extract]
          omega
      · gi_wp2
        refine bodyPost_ret (results_none rfl _ _ _) rfl ?_
        exact ⟨⟨_, rfl⟩, .inr ⟨pre ++ [r.extract 0 i.toNat], ⟨pieces 46 (r.extract (i.toNat + 1) r.size), by rw [← hp, hpc]; simp⟩, hJx3⟩⟩
/-- All but the five blocks stays; nothing goes. -/
structure SameBut (B : Nat) (W W' : World) : Prop where
  os : W'.os = W.os
  tape : W'.tape = W.tape
  output : W'.output = W.output
  size : W.heap.size ≤ W'.heap.size
  block : ∀ k, k < W.heap.size → (k < B ∨ B + 5 ≤ k) → W'.heap[k]? = W.heap[k]?
theorem SameBut.put {B k : Nat} {W : World} {o : Obj} (h1 : B ≤ k) (h2 : k < B + 5) : SameBut B W (W.putObj k o) := ⟨rfl, rfl, rfl, by simp, fun j _ hj => World.putObj_heap_other (by omega)⟩
theorem SameBut.alloc {B : Nat} {W : World} {o : Obj} : SameBut B W (W.alloc o) := ⟨rfl, rfl, rfl, by simp, fun j hj _ => Below.heap_alloc W o j hj⟩
theorem SameBut.set {B k o : Nat} {W : World} {v : Value} (h1 : B ≤ k) (h2 : k < B + 5) : SameBut B W (W.setCell ⟨k, o, none⟩ v) := ⟨rfl, rfl, rfl, (KeepsOthers.setCell W _ v).size, fun j _ hj => Below.heap_setCell W _ v j (by show j ≠ k; omega)⟩
def roundQ (B : Nat) (I : List ByteArray → World → Prop) (Ix : List ByteArray → World → Prop) (xs : List ByteArray) (W : World) : Exit → Act → World → Prop
  | .normal, _, W' => KeptR B W W' ∧ I xs W'
  | .ret, _, W' => KeptR B W W' ∧ Ix xs W'
  | _, _, _ => False
theorem range_seq (hidx : ∀ (s : ByteArray) (w : World), Calls Tryd.prog 44 #[.string s, .string ⟨#[46]⟩] w fun e w' => e = .returned (.int .i64 (Lib.indexByte s.data.toList 46)) ∧ w' = w)
    {n : Nat} (hn : 2 ≤ n) {g : Operand} {p : Nat} {assign body : Code} {Q : Exit → Act → World → Prop} {a : Act} {w : World} {B : Nat} {s : ByteArray} (hg : a.eval g = .func (.func 42) #[] #[.pointer (some ⟨B + 1, 0, none⟩), .pointer (some ⟨B, 0, none⟩), .pointer (some ⟨B + 2, 0, none⟩)]) (hw : w.heap.size = B + 3) (hsz : s.size ≤ 1000000)
    (hS : w.cell? ⟨B, 0, none⟩ = some (.string s)) (hfz : w.frozen? ⟨B, 0, none⟩ = false) (hC : w.cell? ⟨B + 1, 0, none⟩ = some (.string ⟨#[46]⟩)) (hK : w.cell? ⟨B + 2, 0, none⟩ = some (.int .i64 0))
    (I Ix : List ByteArray → World → Prop) (hI : ∀ pre W W', I pre W → SameBut B W W' → I pre W') (hIx : ∀ pre W W', Ix pre W → SameBut B W W' → Ix pre W') (h0 : I [] w) (a₁ : ByteArray → Act)
    (hassign : ∀ (l : Nat) (x : ByteArray) (W : World) (K : Act → World → Prop), K (a₁ x) W → assign.wpIn (Fence.wide.inRound l) (n - 1 - 1) Tryd.prog (Exit.then K (fun _ _ _ => False)) { tmps := (#[p].zip #[Value.string x]).foldl (fun t (p, v) => t.setIfInBounds p v) a.tmps, defers := [] } W)
    (hbody : ∀ (l : Nat) (pre : List ByteArray) (x : ByteArray) (W : World), I pre W → x.size ≤ 1000000 → B + 5 ≤ W.heap.size → body.wpIn (Fence.wide.inRound l) (n - 1 - 1) Tryd.prog (roundQ B I Ix (pre ++ [x]) W) (a₁ x) W)
    (hdone : ∀ W : World, I (pieces 46 s) W → W.heap[B + 3]? = some (.deferred (some [])) → Q .normal { a with defers := { target := .collected (B + 3), args := #[] } :: a.defers } W)
    (hstop : ∀ (pre : List ByteArray) (W : World), pre <+: pieces 46 s → Ix pre W → W.heap[B + 3]? = some (.deferred (some [])) → Code.ret.wpIn Fence.wide n Tryd.prog Q { a with defers := { target := .collected (B + 3), args := #[] } :: a.defers } W) :
    (Code.rangeFunc g #[p] assign body).wpIn Fence.wide n Tryd.prog Q a w := by
  refine wpIn_rangeFunc fun fn hfn => ?_
  obtain ⟨rec, hrec⟩ : ∃ rec : LoopState → Option Code → Loop, rec = fun st pe => { state := st, pending := pe, fn, tmps := a.tmps, params := #[p], assign, body, defers := B + 3 } := ⟨_, rfl⟩
  obtain ⟨W1, hW1⟩ : ∃ W1, (w.alloc (.deferred (some []))).alloc (.loop (rec .ready none)) = W1 := ⟨_, rfl⟩
  have hL1 : W1.heap[B + 4]? = some (.loop (rec .ready none)) := by
    rw [← hW1]
    have := World.alloc_heap_new (w.alloc (.deferred (some []))) (.loop (rec .ready none))
    rwa [World.size_alloc, hw] at this
  have hD1 : W1.heap[B + 3]? = some (.deferred (some [])) := by
    rw [← hW1, ← hw]
    exact (Below.heap_alloc _ _ _ (by simp)).trans (World.alloc_heap_new w _)
  have hB1 : ∀ k, k < w.heap.size → W1.heap[k]? = w.heap[k]? := fun k hk => by
    rw [← hW1]
    exact (Below.heap_alloc _ _ _ (by simp; omega)).trans (Below.heap_alloc _ _ _ hk)
  have hI1 : I [] W1 := by
    rw [← hW1]
    exact hI _ _ _ (hI _ _ _ h0 .alloc) .alloc
  have cell1 : ∀ k, k < B + 3 → W1.cell? ⟨k, 0, none⟩ = w.cell? ⟨k, 0, none⟩ := fun k hk => World.cell?_of_block (w := w) (hB1 k (by omega))
  have froz1 : W1.frozen? ⟨B, 0, none⟩ = w.frozen? ⟨B, 0, none⟩ := World.frozen?_of_block (w := w) (hB1 B (by omega))
  refine ⟨B + 4, [{ target := .collected (B + 3), args := #[] }], W1, { target := .fn (.func 42) #[.pointer (some ⟨B + 1, 0, none⟩), .pointer (some ⟨B, 0, none⟩), .pointer (some ⟨B + 2, 0, none⟩)], args := #[.func (.yield (B + 4)) #[] #[]] }, W1, 42,
    #[.func (.yield (B + 4)) #[] #[], .pointer (some ⟨B + 1, 0, none⟩), .pointer (some ⟨B, 0, none⟩), .pointer (some ⟨B + 2, 0, none⟩)], W1, ?_, ?_, ?_, ?_, fun _ => by omega, ?_⟩
  · rw [← hW1, hrec, show B + 4 = w.heap.size + 1 by omega, show B + 3 = w.heap.size by omega]
    exact run_enterLoop_outer _ _ _ _ _
  · simp only [resolve, hg]
    simp [go_sem]
  · exact fun _ _ => trivial
  · simp [invoke, go_sem]
  · refine (seq_in hidx (n - 1) (by omega) (B + 4) B s (fun pre W => I pre W ∧ W.heap[B + 4]? = some (.loop (rec .ready none)) ∧ W.heap[B + 3]? = some (.deferred (some []))) (fun pre W => Ix pre W ∧ W.heap[B + 4]? = some (.loop (rec .done (some .ret))) ∧ W.heap[B + 3]? = some (.deferred (some []))) hsz ?_ ?_ W1 ((cell1 _ (by omega)).trans hS) (froz1.trans hfz) ((cell1 _ (by omega)).trans hC) ((cell1 _ (by omega)).trans hK) ⟨hI1, hL1, hD1⟩).mono ?_
    · rintro pre W v ⟨h1, h2, h3⟩
      exact ⟨hI _ _ _ h1 (.set (Nat.le_refl _) (by omega)), (Below.heap_setCell W _ v (B + 4) (by show B + 4 ≠ B; omega)).trans h2, (Below.heap_setCell W _ v (B + 3) (by show B + 3 ≠ B; omega)).trans h3⟩
    · rintro pre x W ⟨hi, hl, hk⟩ hx
      have hlt : B + 4 < W.heap.size := (Array.getElem?_eq_some_iff.1 hl).1
      have hy := run_yield (P := Tryd.prog) (args := #[.string x]) hl (by rw [hrec]; rfl)
      rw [hrec] at hy
      refine ⟨fn, _, assign, body, hy, roundIn_of_wpIn hfn (hassign _ x W _ ⟨_, run_beginRound hl (by rw [hrec]), ?_⟩)⟩
      have hl2 : (W.putObj (B + 4) (.loop { rec .ready none with state := .busy })).heap[B + 4]? = some (.loop { rec .ready none with state := .busy }) := World.putObj_heap_same hlt
      have hk2 : (W.putObj (B + 4) (.loop { rec .ready none with state := .busy })).heap[B + 3]? = some (.deferred (some [])) := (World.putObj_heap_other (by omega)).trans hk
      refine wpIn_mono (hbody _ pre x _ (hI _ _ _ hi (.put (by omega) (by omega))) hx (by simp; omega)) ?_
      have fin : ∀ (jump : Option Code) (W3 : World), KeptR B (W.putObj (B + 4) (.loop { rec .ready none with state := .busy })) W3 →
          (Instr.endRound (B + 4) jump).run Tryd.prog W3 = .ok (.bool jump.isNone) (W3.putObj (B + 4) (.loop (rec (if jump.isNone then .ready else .done) jump))) ∧
          (W3.putObj (B + 4) (.loop (rec (if jump.isNone then .ready else .done) jump))).heap[B + 4]? = some (.loop (rec (if jump.isNone then .ready else .done) jump)) ∧
          (W3.putObj (B + 4) (.loop (rec (if jump.isNone then .ready else .done) jump))).heap[B + 3]? = some (.deferred (some [])) := fun jump W3 hk3 => by
        have hl3 := (hk3 (B + 4) (by omega) (by omega)).trans hl2
        have := run_endRound (P := Tryd.prog) jump hl3
        rw [hrec] at this ⊢
        exact ⟨this, World.putObj_heap_same (Array.getElem?_eq_some_iff.1 hl3).1, (World.putObj_heap_other (by omega)).trans ((hk3 (B + 3) (by omega) (by omega)).trans hk2)⟩
      rintro e a3 W3 hp
      cases e with
      | normal =>
        obtain ⟨hk3, hi3⟩ := hp
        obtain ⟨hr, hl4, hk4⟩ := fin none W3 hk3
        refine ⟨_, _, hr, .inl ⟨rfl, ⟨hI _ _ _ hi3 (.put (by omega) (by omega)), hl4, hk4⟩, fun k h1 h2 => ?_⟩⟩
        by_cases he : k = B + 4
        · rw [he]
          exact hl4.trans hl.symm
        · exact (World.putObj_heap_other he).trans ((hk3 k h1 h2).trans (World.putObj_heap_other he))
      | ret =>
        obtain ⟨hk3, hi3⟩ := hp
        obtain ⟨hr, hl4, hk4⟩ := fin (some .ret) W3 hk3
        exact ⟨_, _, hr, .inr ⟨rfl, hIx _ _ _ hi3 (.put (by omega) (by omega)), hl4, hk4⟩⟩
      | exit id => exact hp.elim
      | goto t => exact hp.elim
      | panic ch => exact hp.elim
      | outgrown => exact hp.elim
    · rintro e W2 ⟨⟨v, rfl⟩, (⟨hi, hl, hk⟩ | ⟨pre, hSp, hi, hl, hk⟩)⟩
      · exact ⟨none, _, by have := run_endLoop (P := Tryd.prog) hl (by rw [hrec]; simp); rw [hrec] at this; exact this, hdone _ (hI _ _ _ hi (.put (by omega) (by omega))) ((World.putObj_heap_other (by omega)).trans hk)⟩
      · exact ⟨some .ret, _, by have := run_endLoop (P := Tryd.prog) hl (by rw [hrec]; simp); rw [hrec] at this; exact this, hstop pre _ hSp (hIx _ _ _ hi (.put (by omega) (by omega))) ((World.putObj_heap_other (by omega)).trans hk)⟩
end Go.Proofs.YtahbmdchcbnolaaDoor
