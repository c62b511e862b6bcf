import Derived.BigCall
import Derived.Deep.RegionHeld
import Derived.BigGuard
import Derived.BigGuardIn
import Derived.Shelf.RegionOpen
import Derived.Maps.AppendAt
import Derived.Maps.OwnIn
import Derived.RangeFuncCalls
import Derived.Lib.ItoaNum
import Derived.Lib.AtoiAll
import Derived.Test.YtahbmdchcbnolaaDoorVtS
import Derived.Test.YtahbmdchcbnolaaDoorVec1
namespace Go.Proofs.YtahbmdchcbnolaaDoor
open Go Go.RowKit Go.Shelf Go.Sx
attribute [local go_sem] Oper.semAt_some

/-- The number that a piece spells, if it does so in the shortest way. -/
def numOf (t : ByteArray) : Option Int := match Lib.atoiAll t.data.toList with
  | .ok n => if toB (Lib.itoa n) = t then some n else none
  | _ => none
def numsOf (l : List ByteArray) : Option (List Int) := l.mapM numOf
theorem toList_inj {a b : ByteArray} (h : a.toList = b.toList) : a = b := by
  rw [ByteArray.toList_eq, ByteArray.toList_eq] at h
  exact ByteArray.ext (Array.ext' h)
theorem numsOf_snoc {l : List ByteArray} {t : ByteArray} {xs : List Int} {n : Int} (h : numsOf l = some xs) (ht : numOf t = some n) : numsOf (l ++ [t]) = some (xs ++ [n]) := by
  simp only [numsOf] at h ⊢
  rw [List.mapM_append, h]
  simp [ht]
theorem numsOf_bad {l : List ByteArray} {t : ByteArray} (ht : numOf t = none) : numsOf (l ++ [t]) = none := by
  simp only [numsOf]
  rw [List.mapM_append]
  cases l.mapM numOf <;> simp [ht]
structure ReadI (w0 : World) (O : Nat) (pre : List ByteArray) (W : World) (xs : List Int) (v : Value) : Prop where
  nums : numsOf pre = some xs
  few : xs.length ≤ 7
  out : W.heap[O]? = some (.cells #[v] 22 (0, 0))
  row : W.ownsRow (O + 6) 3 1 v xs.length (xs.map (Value.int .i64))
  below : Below w0.heap.size w0 W
  r2 : W.heap[w0.heap.size]? = some (.cells #[.slice none 0 0] 22 (0, 0))
  r3 : W.heap[w0.heap.size + 1]? = some (.cells #[.nilIface] 25 (0, 0))
structure ReadX (w0 : World) (pre : List ByteArray) (W : World) (e0 : Value) : Prop where
  bad : ∀ xs, numsOf pre = some xs → 7 < xs.length
  below : Below w0.heap.size w0 W
  r2 : W.heap[w0.heap.size]? = some (.cells #[.slice none 0 0] 22 (0, 0))
  r3 : W.heap[w0.heap.size + 1]? = some (.cells #[e0] 25 (0, 0))
theorem sameBut_row {B : Nat} {W W' : World} {e : TypeId} {size n : Nat} {v : Value} {xs : List Value} (h : W.ownsRow (B + 5) e size v n xs) (hs : SameBut B W W') : W'.ownsRow (B + 5) e size v n xs := by
  refine ⟨h.1, h.2.imp_right ?_⟩
  rintro ⟨g, cap, cur, h1, h2, h3, h4⟩
  exact ⟨g, cap, cur, h1, h2, (hs.block g (Array.getElem?_eq_some_iff.1 h3).1 (.inr h2)).trans h3, h4⟩
theorem sameBut_at {B k : Nat} {W W' : World} {o : Obj} (h : W.heap[k]? = some o) (hk : k < B) (hs : SameBut B W W') : W'.heap[k]? = some o := (hs.block k (Array.getElem?_eq_some_iff.1 h).1 (.inl hk)).trans h
theorem sameBut_below {B N : Nat} {w0 W W' : World} (h : Below N w0 W) (hn : N ≤ B) (hw : N ≤ w0.heap.size) (hs : SameBut B W W') : Below N w0 W' :=
  h.trans ⟨hs.os, hs.tape, hs.output, hs.size, fun k hk => hs.block k (by have := h.size; omega) (.inl (by omega))⟩
theorem ownsRow_below {W W' : World} {base : Nat} {e : TypeId} {size n : Nat} {v : Value} {xs : List Value} (h : W.ownsRow base e size v n xs) (hb : Below W.heap.size W W') : W'.ownsRow base e size v n xs := by
  refine ⟨h.1, h.2.imp_right ?_⟩
  rintro ⟨g, cap, cur, h1, h2, h3, h4⟩
  exact ⟨g, cap, cur, h1, h2, (hb.block g (Array.getElem?_eq_some_iff.1 h3).1).trans h3, h4⟩
theorem ownBlock_ge {W : World} {base : Nat} {e : TypeId} {size n k : Nat} {v : Value} {xs : List Value} (h : W.ownsRow base e size v n xs) (hk : k < base) : some k ≠ v.ownBlock := by
  rcases h.2 with ⟨rfl, _⟩ | ⟨g, cap, cur, rfl, hg, _⟩
  · simp [Value.ownBlock]
  · intro he
    have : k = g := by simpa [Value.ownBlock] using he
    omega
theorem setCell_one {W : World} {k : Nat} {u v : Value} {t : TypeId} (h : W.heap[k]? = some (.cells #[u] t (0, 0))) : (W.setCell ⟨k, 0, none⟩ v).heap[k]? = some (.cells #[v] t (0, 0)) := by
  have hlt := (Array.getElem?_eq_some_iff.1 h).1
  simp only [World.setCell, Array.getElem?_modify, h, if_true, Option.map_some]
  simp
/-- Behind an append and the store of what it made: what lay ahead of the row is as it was, but for the variable. -/
theorem append_stays {W W3 w1 : World} {O : Nat} {tmp : Obj} {v v' : Value} {n m : Nat} {xs ys : List Value} (hrow : W.ownsRow (O + 6) 3 1 v n xs) (hbb : Below W.heap.size W W3) (hW : O + 6 ≤ W.heap.size) (hg : (W3.alloc tmp).grownBy w1 v.ownBlock) (hown : w1.ownsRow (O + 6) 3 1 v' m ys) (hO : W.heap[O]? = some (.cells #[v] 22 (0, 0))) :
    (∀ k, k < O + 6 → k ≠ O → (w1.setCell ⟨O, 0, none⟩ v').heap[k]? = W.heap[k]?) ∧ (w1.setCell ⟨O, 0, none⟩ v').heap[O]? = some (.cells #[v'] 22 (0, 0)) ∧ (w1.setCell ⟨O, 0, none⟩ v').ownsRow (O + 6) 3 1 v' m ys ∧ w1.cell? ⟨O, 0, none⟩ = some v ∧ w1.frozen? ⟨O, 0, none⟩ = false ∧ Below O W (w1.setCell ⟨O, 0, none⟩ v') := by
  have h1 : ∀ k, k < O + 6 → w1.heap[k]? = W.heap[k]? := fun k hk => by
    rw [hg.block k (by have := hbb.size; simp; omega) (ownBlock_ge hrow hk)]
    exact (Below.heap_alloc _ _ _ (by have := hbb.size; omega)).trans (hbb.block k (by omega))
  have h2 : w1.heap[O]? = some (.cells #[v] 22 (0, 0)) := (h1 O (by omega)).trans hO
  refine ⟨fun k hk hne => (Below.heap_setCell w1 _ v' k hne).trans (h1 k hk), ?_, ?_, by simp [World.cell?, h2], by simp [World.frozen?, h2], ?_⟩
  · exact setCell_one h2
  · refine ⟨hown.1, hown.2.imp_right ?_⟩
    rintro ⟨g, cap, cur, e1, e2, e3, e4⟩
    exact ⟨g, cap, cur, e1, e2, (Below.heap_setCell w1 _ v' g (by show g ≠ O; omega)).trans e3, e4⟩
  · refine (hbb.mono (by omega)).trans ⟨hg.os, hg.tape, hg.output, Nat.le_trans (by simp) (Nat.le_trans hg.size (KeepsOthers.setCell _ _ _).size), fun k hk => ?_⟩
    rw [Below.heap_setCell w1 _ v' k (by show k ≠ O; omega), hg.block k (by have := hbb.size; simp; omega) (ownBlock_ge hrow (by omega))]
    exact Below.heap_alloc _ _ _ (by have := hbb.size; omega)
/-- A round that leaves: the results are set. -/
theorem leave_in {w0 W W3 : World} {pre pre' : List ByteArray} {xs : List Int} {v e0 : Value} (hI : ReadI w0 (w0.heap.size + 2) pre W xs v) (hb : Below W.heap.size W W3) (hWs : w0.heap.size + 3 + 5 ≤ W.heap.size) (hbad : ∀ ys, numsOf pre' = some ys → 7 < ys.length) :
    KeptR (w0.heap.size + 3) W ((W3.setCell ⟨w0.heap.size, 0, none⟩ (.slice none 0 0)).setCell ⟨w0.heap.size + 1, 0, none⟩ e0).drew ∧ ReadX w0 pre' ((W3.setCell ⟨w0.heap.size, 0, none⟩ (.slice none 0 0)).setCell ⟨w0.heap.size + 1, 0, none⟩ e0).drew e0 := by
  have h3 : ∀ k, k < W.heap.size → W3.heap[k]? = W.heap[k]? := fun k hk => hb.block k hk
  have far : ∀ k, k ≠ w0.heap.size → k ≠ w0.heap.size + 1 → ((W3.setCell ⟨w0.heap.size, 0, none⟩ (.slice none 0 0)).setCell ⟨w0.heap.size + 1, 0, none⟩ e0).heap[k]? = W3.heap[k]? := fun k h1 h2 => (Below.heap_setCell _ _ _ k h2).trans (Below.heap_setCell _ _ _ k h1)
  have hr2 : W3.heap[w0.heap.size]? = some (.cells #[.slice none 0 0] 22 (0, 0)) := (h3 _ (by omega)).trans hI.r2
  have hr3 : W3.heap[w0.heap.size + 1]? = some (.cells #[.nilIface] 25 (0, 0)) := (h3 _ (by omega)).trans hI.r3
  refine ⟨fun k h1 h2 => (far k (by omega) (by omega)).trans (h3 k (by omega)), hbad, ?_, ?_, ?_⟩
  · refine hI.below.trans ⟨hb.os, hb.tape, hb.output, ?_, fun k hk => (far k (by omega) (by omega)).trans (h3 k (by omega))⟩
    exact Nat.le_trans hb.size (Nat.le_trans (KeepsOthers.setCell _ _ _).size (KeepsOthers.setCell _ _ _).size)
  · exact (Below.heap_setCell _ _ _ _ (by show w0.heap.size ≠ w0.heap.size + 1; omega)).trans (setCell_one hr2)
  · exact setCell_one ((Below.heap_setCell _ _ _ _ (by show w0.heap.size + 1 ≠ w0.heap.size; omega)).trans hr3)
theorem ownsRow_mono {W : World} {b b' : Nat} {e : TypeId} {size n : Nat} {v : Value} {xs : List Value} (h : W.ownsRow b e size v n xs) (hb : b' ≤ b) : W.ownsRow b' e size v n xs := by
  refine ⟨h.1, h.2.imp_right ?_⟩
  rintro ⟨g, cap, cur, h1, h2, h3⟩
  exact ⟨g, cap, cur, h1, by omega, h3⟩
/-- The function's end: both results set, the rounds' calls put off taken over. -/
theorem end_in {w0 W W2 : World} {N : Nat} {u z : Value} (hN : w0.heap.size = N) (hbel : Below N w0 W) (hb : Below W.heap.size W W2) (hK : W.heap[N + 3 + 3]? = some (.deferred (some []))) (h2 : W.heap[N]? = some (.cells #[.slice none 0 0] 22 (0, 0))) (h3 : W.heap[N + 1]? = some (.cells #[.nilIface] 25 (0, 0))) :
    ((W2.setCell ⟨N, 0, none⟩ u).setCell ⟨N + 1, 0, none⟩ z).heap[N + 3 + 3]? = some (.deferred (some [])) ∧ (((W2.setCell ⟨N, 0, none⟩ u).setCell ⟨N + 1, 0, none⟩ z).putObj (N + 3 + 3) (.deferred none)).cell? ⟨N, 0, none⟩ = some u ∧ (((W2.setCell ⟨N, 0, none⟩ u).setCell ⟨N + 1, 0, none⟩ z).putObj (N + 3 + 3) (.deferred none)).cell? ⟨N + 1, 0, none⟩ = some z ∧ Below N w0 (((W2.setCell ⟨N, 0, none⟩ u).setCell ⟨N + 1, 0, none⟩ z).putObj (N + 3 + 3) (.deferred none)) ∧
      ∀ v n xs, W.ownsRow (N + 2 + 6) 3 1 v n xs → (((W2.setCell ⟨N, 0, none⟩ u).setCell ⟨N + 1, 0, none⟩ z).putObj (N + 3 + 3) (.deferred none)).ownsRow N 3 1 v n xs := by
  have hKl : N + 3 + 3 < W.heap.size := (Array.getElem?_eq_some_iff.1 hK).1
  have far : ∀ k, k < W.heap.size → k ≠ N → k ≠ N + 1 → ((W2.setCell ⟨N, 0, none⟩ u).setCell ⟨N + 1, 0, none⟩ z).heap[k]? = W.heap[k]? := fun k hk h1 h2 => ((Below.heap_setCell _ _ _ k h2).trans (Below.heap_setCell _ _ _ k h1)).trans (hb.block k hk)
  have n2 : ((W2.setCell ⟨N, 0, none⟩ u).setCell ⟨N + 1, 0, none⟩ z).heap[N]? = some (.cells #[u] 22 (0, 0)) := (Below.heap_setCell _ _ _ _ (by show N ≠ N + 1; omega)).trans (setCell_one ((hb.block N (by omega)).trans h2))
  have n3 : ((W2.setCell ⟨N, 0, none⟩ u).setCell ⟨N + 1, 0, none⟩ z).heap[N + 1]? = some (.cells #[z] 25 (0, 0)) := setCell_one ((Below.heap_setCell _ _ _ _ (by show N + 1 ≠ N; omega)).trans ((hb.block (N + 1) (by omega)).trans h3))
  have put : ∀ k, k ≠ N + 3 + 3 → (((W2.setCell ⟨N, 0, none⟩ u).setCell ⟨N + 1, 0, none⟩ z).putObj (N + 3 + 3) (.deferred none)).heap[k]? = ((W2.setCell ⟨N, 0, none⟩ u).setCell ⟨N + 1, 0, none⟩ z).heap[k]? := fun k hk => World.putObj_heap_other hk
  refine ⟨(far _ hKl (by omega) (by omega)).trans hK, ?_, ?_, hbel.trans ⟨hb.os, hb.tape, hb.output, ?_, fun k hk => (put k (by omega)).trans (far k (by omega) (by omega) (by omega))⟩, ?_⟩
  · simp [World.cell?, put N (by omega), n2]
  · simp [World.cell?, put (N + 1) (by omega), n3]
  · rw [World.putObj_size]
    exact Nat.le_trans hb.size (Nat.le_trans (KeepsOthers.setCell _ _ _).size (KeepsOthers.setCell _ _ _).size)
  · intro v n xs h
    refine ownsRow_mono (b := N + 2 + 6) ⟨h.1, h.2.imp_right ?_⟩ (by omega)
    rintro ⟨g, cap, cur, e1, e2, e3, e4⟩
    exact ⟨g, cap, cur, e1, e2, (put g (by omega)).trans ((far g (Array.getElem?_eq_some_iff.1 e3).1 (by omega) (by omega)).trans e3), e4⟩
theorem ReadI.same {w0 : World} {O : Nat} {pre : List ByteArray} {W W' : World} {xs : List Int} {v : Value} (hO : O = w0.heap.size + 2) (h : ReadI w0 O pre W xs v) (hs : SameBut (O + 1) W W') : ReadI w0 O pre W' xs v :=
  ⟨h.nums, h.few, sameBut_at h.out (by omega) hs, sameBut_row h.row hs, sameBut_below h.below (by omega) (Nat.le_refl _) hs, sameBut_at h.r2 (by omega) hs, sameBut_at h.r3 (by omega) hs⟩
theorem ReadX.same {w0 : World} {O : Nat} {pre : List ByteArray} {W W' : World} {e0 : Value} (hO : O = w0.heap.size + 2) (h : ReadX w0 pre W e0) (hs : SameBut (O + 1) W W') : ReadX w0 pre W' e0 :=
  ⟨h.bad, sameBut_below h.below (by omega) (Nat.le_refl _) hs, sameBut_at h.r2 (by omega) hs, sameBut_at h.r3 (by omega) hs⟩
set_option maxRecDepth 100000 in
set_option maxHeartbeats 4000000 in
theorem split_in (s : ByteArray) (w : World) (n : Nat) (hn : 1 ≤ n) : CallsIn Fence.wide n Tryd.prog 17 #[.string s, .string ⟨#[46]⟩] w fun e w' => e = .returned (.func (.func 42) #[] #[.pointer (some ⟨w.heap.size + 1, 0, none⟩), .pointer (some ⟨w.heap.size, 0, none⟩), .pointer (some ⟨w.heap.size + 2, 0, none⟩)]) ∧ w' = ((w.alloc (.cells #[.string s] 9)).alloc (.cells #[.string ⟨#[46]⟩] 9)).alloc (.cells #[.int .i64 0] 3) := by
  have h28 : ∀ m, CallsIn Fence.wide m Tryd.prog 28 #[.string s, .string ⟨#[46]⟩, .int .i64 0] w fun e w' => e = .returned (.func (.func 42) #[] #[.pointer (some ⟨w.heap.size + 1, 0, none⟩), .pointer (some ⟨w.heap.size, 0, none⟩), .pointer (some ⟨w.heap.size + 2, 0, none⟩)]) ∧ w' = ((w.alloc (.cells #[.string s] 9)).alloc (.cells #[.string ⟨#[46]⟩] 9)).alloc (.cells #[.int .i64 0] 3) := fun m => by
    refine callsIn_of_wp Tryd.func28 rfl trivial ?_ rfl
    simp only [Tryd.ntmps28, List.size_toArray, List.length_cons, List.length_nil, Nat.reduceAdd, Nat.reduceSub, Array.replicate_succ, Array.replicate_zero, List.push_toArray, List.append_toArray, List.nil_append, List.cons_append]
    gi_wp2
    go_ret
    exact ⟨rfl, rfl⟩
  refine callsIn_of_wp Tryd.func17 rfl trivial ?_ rfl
  simp only [Tryd.ntmps17, List.size_toArray, List.length_cons, List.length_nil, Nat.reduceAdd, Nat.reduceSub, Array.replicate_succ, Array.replicate_zero, List.push_toArray, List.append_toArray, List.nil_append, List.cons_append]
  gi_wp2_with (refine ⟨trivial, ?_⟩; gi_at_call 28; refine (h28 _).mono ?_; rintro e w' ⟨rfl, rfl⟩)
  go_ret
  exact ⟨rfl, rfl⟩

theorem infoInt : (Tryd.prog.info? 3).map (fun i => (i.zero, i.size, i.bytes)) = some (some (.int .i64 0), 1, 8) := by kernel_rfl
/-- What vector.Read answers at a text. -/
def readR (s : ByteArray) : Option (List Int) := match numsOf (pieces 46 s) with
  | some xs => if xs.length ≤ 7 ∧ vecErr xs = 0 then some xs else none
  | none => none
set_option maxRecDepth 100000 in
set_option maxHeartbeats 8000000 in
theorem read_in (w0 : World) (s : ByteArray) (hsz : s.size ≤ 1000000) (e0 : Value) (he0 : ∃ p, e0 = .iface 135 (.pointer (some p)))
    (hidx : ∀ (s : ByteArray) (w : World), Calls Tryd.prog 44 #[.string s, .string ⟨#[46]⟩] w fun e w' => e = .returned (.int .i64 (Lib.indexByte s.data.toList 46)) ∧ w' = w)
    (hatoi : ∀ (t : ByteArray) (W : World), Below w0.heap.size w0 W → t.size ≤ 1000000 → Calls Tryd.prog 18 #[.string t] W fun e W' => ∃ n v, e = .returned (.tuple #[.int .i64 n, v]) ∧ ((v = .nilIface ∧ Lib.atoiAll t.data.toList = .ok n ∧ -9223372036854775808 ≤ n ∧ n ≤ 9223372036854775807) ∨ ((∃ tp p, v = .iface tp p) ∧ ∀ m, Lib.atoiAll t.data.toList ≠ .ok m)) ∧ Below W.heap.size W W')
    (hitoa : ∀ (n : Int) (W : World), Below w0.heap.size w0 W → -9223372036854775808 ≤ n → n ≤ 9223372036854775807 → Calls Tryd.prog 14 #[.int .i64 n] W fun e W' => e = .returned (.string (toB (Lib.itoa n))) ∧ Below W.heap.size W W')
    (hcheck : ∀ (base : Nat) (v : Value) (xs : List Int) (W : World), Below w0.heap.size w0 W → W.ownsRow base 3 1 v xs.length (xs.map (Value.int .i64)) → xs.length ≤ 7 → Calls Tryd.prog 13 #[v] W fun e W' => ∃ u, e = .returned u ∧ (u = .nilIface ∧ vecErr xs = 0 ∨ (∃ tp p, u = .iface tp p) ∧ vecErr xs ≠ 0) ∧ Below W.heap.size W W')
    (hE : w0.cell? ⟨0, 0, none⟩ = some e0) (h00 : 0 < w0.heap.size) :
    CallsIn Fence.wide 4 Tryd.prog 9 #[.string s] w0 fun e W' => ∃ v, ((e = .returned (.tuple #[.slice none 0 0, e0]) ∧ readR s = none) ∨ (∃ xs, e = .returned (.tuple #[v, .nilIface]) ∧ readR s = some xs ∧ W'.ownsRow w0.heap.size 3 1 v xs.length (xs.map (Value.int .i64)))) ∧ Below w0.heap.size w0 W' := by
  obtain ⟨p0, rfl⟩ := he0
  obtain ⟨i0, hi, hz0, hz1, hz2⟩ := info_parts infoInt
  have mixed : Tryd.prog.follows .mixedOrders = true := by kernel_rfl
  refine callsIn_of_wp_marks Tryd.func9 rfl trivial ?_ rfl
  simp only [Tryd.ntmps9, List.size_toArray, List.length_cons, List.length_nil, Nat.reduceAdd, Nat.reduceSub, Array.replicate_succ, Array.replicate_zero, List.push_toArray, List.append_toArray, List.nil_append, List.cons_append]
  gi_wp2_with (refine ⟨trivial, ?_⟩; gi_at_call 17; refine (split_in s _ _ (by omega)).mono ?_; rintro e w' ⟨rfl, rfl⟩)
  obtain ⟨W1, hW1⟩ : ∃ W1, W1 = (((((w0.alloc (.cells #[.slice none 0 0] 22)).alloc (.cells #[.nilIface] 25)).alloc (.cells #[.slice none 0 0] 22)).alloc (.cells #[.string s] 9)).alloc (.cells #[.string ⟨#[46]⟩] 9)).alloc (.cells #[.int .i64 0] 3) := ⟨_, rfl⟩
  rw [← hW1]
  have hat : ∀ k o, k < 6 → ([Obj.cells #[.slice none 0 0] 22, .cells #[.nilIface] 25, .cells #[.slice none 0 0] 22, .cells #[.string s] 9, .cells #[.string ⟨#[46]⟩] 9, .cells #[.int .i64 0] 3])[k]? = some o → W1.heap[w0.heap.size + k]? = some o := by
    intro k o hk ho
    rw [hW1]
    simp only [World.alloc, Array.getElem?_push, Array.size_push]
    have h6 : k = 0 ∨ k = 1 ∨ k = 2 ∨ k = 3 ∨ k = 4 ∨ k = 5 := by omega
    rcases h6 with rfl | rfl | rfl | rfl | rfl | rfl <;> (repeat' split) <;> first | omega | exact ho
  have hsize : W1.heap.size = w0.heap.size + 6 := by rw [hW1]; simp
  have hbel : Below w0.heap.size w0 W1 := by
    rw [hW1]
    exact ((((((Below.refl _ w0).alloc (Nat.le_refl _) _).alloc (by simp) _).alloc (by simp; omega) _).alloc (by simp; omega) _).alloc (by simp; omega) _).alloc (by simp; omega) _
  have cellW : ∀ (W : World) (k : Nat) (v : Value) (t : TypeId), W.heap[k]? = some (.cells #[v] t (0, 0)) → W.cell? ⟨k, 0, none⟩ = some v ∧ W.frozen? ⟨k, 0, none⟩ = false := fun W k v t h => by simp [World.cell?, World.frozen?, h]
  have cell1 : ∀ k v t, W1.heap[k]? = some (.cells #[v] t (0, 0)) → W1.cell? ⟨k, 0, none⟩ = some v ∧ W1.frozen? ⟨k, 0, none⟩ = false := fun k v t h => by simp [World.cell?, World.frozen?, h]
  refine range_seq hidx (B := w0.heap.size + 3) (s := s) (by omega) rfl (by omega) hsz (cell1 _ _ _ (hat 3 _ (by omega) rfl)).1 (cell1 _ _ _ (hat 3 _ (by omega) rfl)).2 (cell1 _ _ _ (hat 4 _ (by omega) rfl)).1 (cell1 _ _ _ (hat 5 _ (by omega) rfl)).1
    (fun pre W => ∃ xs v, ReadI w0 (w0.heap.size + 2) pre W xs v) (fun pre W => ReadX w0 pre W (.iface 135 (.pointer (some p0)))) (fun pre W W' ⟨xs, v, h⟩ hs => ⟨xs, v, h.same rfl hs⟩) (fun pre W W' h hs => h.same rfl hs)
    ⟨[], .slice none 0 0, rfl, by simp, hat 2 _ (by omega) rfl, World.ownsRow_nil _ _ _ _, hbel, hat 0 _ (by omega) rfl, hat 1 _ (by omega) rfl⟩
    (fun x => { tmps := #[.string s, undef, .pointer (some ⟨w0.heap.size, 0, none⟩), .pointer (some ⟨w0.heap.size + 1, 0, none⟩), .pointer (some ⟨w0.heap.size + 1 + 1, 0, none⟩), .string x, undef, undef, .string s, .func (.func 42) #[] #[.pointer (some ⟨w0.heap.size + 1 + 1 + 1 + 1, 0, none⟩), .pointer (some ⟨w0.heap.size + 1 + 1 + 1, 0, none⟩), .pointer (some ⟨w0.heap.size + 1 + 1 + 1 + 2, 0, none⟩)], .string x, undef, undef, undef, undef, undef, undef, undef, undef, undef, undef, undef, undef, undef, undef, undef, undef, undef, undef, undef, undef, undef, undef, undef, undef, undef, undef, undef, undef], defers := [] }) ?assign ?body ?done ?stop
  case assign =>
    intro l x W K hK
    gi_wp2
    exact hK
  case body =>
    rintro l pre x W ⟨xs, v, hI⟩ hxs hWs
    obtain ⟨a, c, rfl⟩ : ∃ a c, v = .slice a xs.length c := by
      rcases hI.row.2 with ⟨h, h2⟩ | ⟨g, cap, _, h, _⟩
      · exact ⟨none, 0, by rw [h, h2]⟩
      · exact ⟨_, _, h⟩
    have hfew := hI.few
    obtain ⟨hc, hf⟩ := cellW _ _ _ _ hI.out
    have hOl : w0.heap.size + 2 < W.heap.size := (Array.getElem?_eq_some_iff.1 hI.out).1
    have keepC : ∀ W2 k, Below W.heap.size W W2 → k < w0.heap.size + 3 → W2.cell? ⟨k, 0, none⟩ = W.cell? ⟨k, 0, none⟩ ∧ W2.frozen? ⟨k, 0, none⟩ = W.frozen? ⟨k, 0, none⟩ := fun W2 k hb hk => ⟨hb.cell (p := ⟨k, 0, none⟩) (by show k < _; omega), hb.frozen (p := ⟨k, 0, none⟩) (by show k < _; omega)⟩
    obtain ⟨hc2, hf2⟩ := cellW _ _ _ _ hI.r2
    obtain ⟨hc3, hf3⟩ := cellW _ _ _ _ hI.r3
    have hW0 : ∀ W2, Below W.heap.size W W2 → W2.cell? ⟨0, 0, none⟩ = some (.iface 135 (.pointer (some p0))) := fun W2 hb => ((hI.below.trans (hb.mono hI.below.size)).cell (p := ⟨0, 0, none⟩) h00).trans hE
    have hE1 := hW0 W (Below.refl _ _)
    by_cases hok : ∃ n, Lib.atoiAll x.data.toList = .ok n
    · obtain ⟨n, hok⟩ := hok
      have hA : Calls Tryd.prog 18 #[.string x] W fun e W' => e = .returned (.tuple #[.int .i64 n, .nilIface]) ∧ (-9223372036854775808 ≤ n ∧ n ≤ 9223372036854775807) ∧ Below W.heap.size W W' := (hatoi x W hI.below hxs).mono fun e W' ⟨m, u, he, hu, hb⟩ => by
        rcases hu with ⟨rfl, h1, h2⟩ | ⟨_, h1⟩
        · rw [hok] at h1
          cases h1
          exact ⟨he, h2, hb⟩
        · exact absurd hok (h1 n)
      gi_wp2_with (first
        | (refine ⟨trivial, ?_⟩; gi_at_call 18; refine (CallsIn.inRound l (callsIn_wide.2 hA)).mono ?_; rintro e W2 ⟨rfl, ⟨hn0, hn1⟩, hb2⟩; have hitoa2 := hitoa n W2 (hI.below.trans (hb2.mono hI.below.size)) hn0 hn1)
        | (refine ⟨trivial, ?_⟩; gi_at_call 14; refine (CallsIn.inRound l (callsIn_wide.2 hitoa2)).mono ?_; rintro e W3 ⟨rfl, hb3⟩; have hbb := hb2.trans (hb3.mono hb2.size); have hE3 := hW0 W3 hbb; have hc4 := (keepC W3 (w0.heap.size + 1 + 1) hbb (by omega)).1.trans hc; have hf4 := (keepC W3 (w0.heap.size + 1 + 1) hbb (by omega)).2.trans hf; have hc5 := (keepC W3 w0.heap.size hbb (by omega)).1.trans hc2; have hf5 := (keepC W3 w0.heap.size hbb (by omega)).2.trans hf2; have hc6 := (keepC W3 (w0.heap.size + 1) hbb (by omega)).1.trans hc3; have hf6 := (keepC W3 (w0.heap.size + 1) hbb (by omega)).2.trans hf3; have hrow3 := ownsRow_below hI.row hbb)
        | (gi_at_builtin; refine wpListIn_append_own _ rfl _ _ 22 rfl (w0.heap.size + 2 + 6) 3 i0 (.int .i64 0) 1 8 Tryd.underlying22 hi hz0 hz1 hz2 rfl (by decide) _ _ _ rfl (hrow3.alloc _) ⟨W3.heap.size, 0, none⟩ 1 1 [.int .i64 n] rfl rfl (cell_one_new _ _ _) (by simp [Value.oneCell']) (by have : (8 : Nat) ≤ maxLen := (by decide); omega) (by omega) (by have := hbb.size; simp; omega) ?_; intro v' w1 hown' hgrow _; obtain ⟨g', cap', rfl⟩ := ownsRow_succ hown'; obtain ⟨ha1, ha2, ha3, hc7, hf7, ha4⟩ := append_stays (O := w0.heap.size + 2) hI.row hbb (by omega) hgrow hown' hI.out))
      · have dE3 : W3.drew.cell? ⟨0, 0, none⟩ = some (.iface 135 (.pointer (some p0))) := hE3
        have d5 : W3.drew.cell? ⟨w0.heap.size, 0, none⟩ = some (.slice none 0 0) := hc5
        have df5 : W3.drew.frozen? ⟨w0.heap.size, 0, none⟩ = false := hf5
        have d6 : W3.drew.cell? ⟨w0.heap.size + 1, 0, none⟩ = some .nilIface := hc6
        have df6 : W3.drew.frozen? ⟨w0.heap.size + 1, 0, none⟩ = false := hf6
        have e5 : (W3.drew.setCell ⟨w0.heap.size, 0, none⟩ (.slice none 0 0)).cell? ⟨w0.heap.size + 1, 0, none⟩ = some .nilIface := (World.cell?_setCell_far _ _ _ _ (by simp)).trans d6
        have e6 : (W3.drew.setCell ⟨w0.heap.size, 0, none⟩ (.slice none 0 0)).cell? ⟨0, 0, none⟩ = some (.iface 135 (.pointer (some p0))) := (World.cell?_setCell_far _ _ _ _ (show w0.heap.size ≠ 0 by omega)).trans dE3
        have e7 : (W3.drew.setCell ⟨w0.heap.size, 0, none⟩ (.slice none 0 0)).frozen? ⟨w0.heap.size + 1, 0, none⟩ = false := by rw [World.frozen?_setCell]; exact df6
        have hne1 : ¬ w0.heap.size = 0 := by omega
        gi_region_with_o (fail)
        all_goals
          gi_wp2
          have h8 : (toB (Lib.itoa n)).toList = x.toList := by assumption
          have h9 : (6 : Int) < xs.length := by assumption
          have hnum : numOf x = some n := by rw [numOf, hok]; exact if_pos (toList_inj h8)
          refine leave_in hI hbb hWs fun ys hy => ?_
          rw [numsOf_snoc hI.nums hnum] at hy
          cases hy
          rw [List.length_append, List.length_singleton]
          omega
      · have h8 : (toB (Lib.itoa n)).toList = x.toList := by assumption
        have h9 : (xs.length : Int) ≤ 6 := by assumption
        have hnum : numOf x = some n := by rw [numOf, hok]; exact if_pos (toList_inj h8)
        refine ⟨fun k h1 h2 => ha1 k (by omega) (by omega), xs ++ [n], _, numsOf_snoc hI.nums hnum, by rw [List.length_append, List.length_singleton]; omega, ha2, by rw [List.length_append, List.map_append]; exact ha3, hI.below.trans (ha4.mono (by omega)), (ha1 _ (by omega) (by omega)).trans hI.r2, (ha1 _ (by omega) (by omega)).trans hI.r3⟩
      · have dE3 : W3.drew.cell? ⟨0, 0, none⟩ = some (.iface 135 (.pointer (some p0))) := hE3
        have d5 : W3.drew.cell? ⟨w0.heap.size, 0, none⟩ = some (.slice none 0 0) := hc5
        have df5 : W3.drew.frozen? ⟨w0.heap.size, 0, none⟩ = false := hf5
        have d6 : W3.drew.cell? ⟨w0.heap.size + 1, 0, none⟩ = some .nilIface := hc6
        have df6 : W3.drew.frozen? ⟨w0.heap.size + 1, 0, none⟩ = false := hf6
        have e5 : (W3.drew.setCell ⟨w0.heap.size, 0, none⟩ (.slice none 0 0)).cell? ⟨w0.heap.size + 1, 0, none⟩ = some .nilIface := (World.cell?_setCell_far _ _ _ _ (by simp)).trans d6
        have e6 : (W3.drew.setCell ⟨w0.heap.size, 0, none⟩ (.slice none 0 0)).cell? ⟨0, 0, none⟩ = some (.iface 135 (.pointer (some p0))) := (World.cell?_setCell_far _ _ _ _ (show w0.heap.size ≠ 0 by omega)).trans dE3
        have e7 : (W3.drew.setCell ⟨w0.heap.size, 0, none⟩ (.slice none 0 0)).frozen? ⟨w0.heap.size + 1, 0, none⟩ = false := by rw [World.frozen?_setCell]; exact df6
        have hne1 : ¬ w0.heap.size = 0 := by omega
        gi_region_with_o (fail)
        all_goals
          gi_wp2
          have h8 : ¬ (toB (Lib.itoa n)).toList = x.toList := by assumption
          have hnum : numOf x = none := by rw [numOf, hok]; exact if_neg fun h => h8 (by rw [h])
          refine leave_in hI hbb hWs fun ys hy => ?_
          rw [numsOf_bad hnum] at hy
          cases hy
    · have hB : Calls Tryd.prog 18 #[.string x] W fun e W' => ∃ m tp p, e = .returned (.tuple #[.int .i64 m, .iface tp p]) ∧ Below W.heap.size W W' := (hatoi x W hI.below hxs).mono fun e W' ⟨m, u, he, hu, hb⟩ => by
        rcases hu with ⟨rfl, h1, h2⟩ | ⟨⟨tp, p, rfl⟩, _⟩
        · exact absurd ⟨m, h1⟩ hok
        · exact ⟨m, tp, p, he, hb⟩
      gi_wp2_with (first | (refine ⟨trivial, ?_⟩; gi_at_call 18; refine (CallsIn.inRound l (callsIn_wide.2 hB)).mono ?_; rintro e W2 ⟨m, tp, p, rfl, hb2⟩; have hE2 := hW0 W2 hb2; have hc5 := (keepC W2 w0.heap.size hb2 (by omega)).1.trans hc2; have hf5 := (keepC W2 w0.heap.size hb2 (by omega)).2.trans hf2; have hc6 := (keepC W2 (w0.heap.size + 1) hb2 (by omega)).1.trans hc3; have hf6 := (keepC W2 (w0.heap.size + 1) hb2 (by omega)).2.trans hf3) | (refine ⟨trivial, ?_⟩))
      have dE3 : W2.drew.cell? ⟨0, 0, none⟩ = some (.iface 135 (.pointer (some p0))) := hE2
      have d5 : W2.drew.cell? ⟨w0.heap.size, 0, none⟩ = some (.slice none 0 0) := hc5
      have df5 : W2.drew.frozen? ⟨w0.heap.size, 0, none⟩ = false := hf5
      have d6 : W2.drew.cell? ⟨w0.heap.size + 1, 0, none⟩ = some .nilIface := hc6
      have df6 : W2.drew.frozen? ⟨w0.heap.size + 1, 0, none⟩ = false := hf6
      have e5 : (W2.drew.setCell ⟨w0.heap.size, 0, none⟩ (.slice none 0 0)).cell? ⟨w0.heap.size + 1, 0, none⟩ = some .nilIface := (World.cell?_setCell_far _ _ _ _ (by simp)).trans d6
      have e6 : (W2.drew.setCell ⟨w0.heap.size, 0, none⟩ (.slice none 0 0)).cell? ⟨0, 0, none⟩ = some (.iface 135 (.pointer (some p0))) := (World.cell?_setCell_far _ _ _ _ (show w0.heap.size ≠ 0 by omega)).trans dE3
      have e7 : (W2.drew.setCell ⟨w0.heap.size, 0, none⟩ (.slice none 0 0)).frozen? ⟨w0.heap.size + 1, 0, none⟩ = false := by rw [World.frozen?_setCell]; exact df6
      have hne1 : ¬ w0.heap.size = 0 := by omega
      gi_region_with_o (fail)
      all_goals
        gi_wp2
        have hnum : numOf x = none := by
          rw [numOf]
          cases h : Lib.atoiAll x.data.toList
          · rename_i n
            exact absurd ⟨n, h⟩ hok
          · rfl
          · rfl
        refine leave_in hI hb2 hWs fun ys hy => ?_
        rw [numsOf_bad hnum] at hy
        cases hy
  case done =>
    rintro W ⟨xs, v, hI⟩ hK
    obtain ⟨a, c, rfl⟩ : ∃ a c, v = .slice a xs.length c := by
      rcases hI.row.2 with ⟨h, h2⟩ | ⟨g, cap, _, h, _⟩
      · exact ⟨none, 0, by rw [h, h2]⟩
      · exact ⟨_, _, h⟩
    obtain ⟨hc, hf⟩ := cellW _ _ _ _ hI.out
    obtain ⟨hc2, hf2⟩ := cellW _ _ _ _ hI.r2
    obtain ⟨hc3, hf3⟩ := cellW _ _ _ _ hI.r3
    have hKl : w0.heap.size + 3 + 3 < W.heap.size := (Array.getElem?_eq_some_iff.1 hK).1
    have hE1 : W.cell? ⟨0, 0, none⟩ = some (.iface 135 (.pointer (some p0))) := (hI.below.cell (p := ⟨0, 0, none⟩) h00).trans hE
    have keepC : ∀ W2 k, Below W.heap.size W W2 → k < w0.heap.size + 3 → W2.cell? ⟨k, 0, none⟩ = W.cell? ⟨k, 0, none⟩ ∧ W2.frozen? ⟨k, 0, none⟩ = W.frozen? ⟨k, 0, none⟩ := fun W2 k hb hk => ⟨hb.cell (p := ⟨k, 0, none⟩) (by show k < _; omega), hb.frozen (p := ⟨k, 0, none⟩) (by show k < _; omega)⟩
    by_cases hv : vecErr xs = 0
    · have hA : Calls Tryd.prog 13 #[.slice a xs.length c] W fun e W' => e = .returned .nilIface ∧ Below W.heap.size W W' := (hcheck _ _ xs W hI.below hI.row hI.few).mono fun e W' ⟨u, he, hu, hb⟩ => by
        rcases hu with ⟨rfl, _⟩ | ⟨_, h⟩
        · exact ⟨he, hb⟩
        · exact absurd hv h
      gi_wp2_with (refine ⟨trivial, ?_⟩; gi_at_call 13; refine (callsIn_wide.2 hA).mono ?_; rintro e W2 ⟨rfl, hb2⟩; have hc4 := (keepC W2 (w0.heap.size + 1 + 1) hb2 (by omega)).1.trans hc; have hc5 := (keepC W2 w0.heap.size hb2 (by omega)).1.trans hc2; have hf5 := (keepC W2 w0.heap.size hb2 (by omega)).2.trans hf2; have hc6 := (keepC W2 (w0.heap.size + 1) hb2 (by omega)).1.trans hc3; have hf6 := (keepC W2 (w0.heap.size + 1) hb2 (by omega)).2.trans hf3; have e5 : ∀ v, (W2.setCell ⟨w0.heap.size, 0, none⟩ v).cell? ⟨w0.heap.size + 1, 0, none⟩ = some .nilIface := fun v => (World.cell?_setCell_far _ _ _ _ (by simp)).trans hc6)
      obtain ⟨k1, k2, k3, k4, k5⟩ := end_in (u := .slice a xs.length c) (z := .nilIface) rfl hI.below hb2 hK hI.r2 hI.r3
      refine ⟨by simp, .inl ⟨_, _, rfl, run_takeDeferred k1, ?_⟩⟩
      refine ⟨.tuple #[.slice a xs.length c, .nilIface], by simp [results, Tryd.f9, go_sem, k2, k3], _, .inr ⟨xs, rfl, ?_, k5 _ _ _ hI.row⟩, k4⟩
      rw [readR, hI.nums]
      exact if_pos ⟨hI.few, hv⟩
    · have hA : Calls Tryd.prog 13 #[.slice a xs.length c] W fun e W' => ∃ tp p, e = .returned (.iface tp p) ∧ Below W.heap.size W W' := (hcheck _ _ xs W hI.below hI.row hI.few).mono fun e W' ⟨u, he, hu, hb⟩ => by
        rcases hu with ⟨_, h⟩ | ⟨⟨tp, p, rfl⟩, _⟩
        · exact absurd h hv
        · exact ⟨tp, p, he, hb⟩
      gi_wp2_with (refine ⟨trivial, ?_⟩; gi_at_call 13; refine (callsIn_wide.2 hA).mono ?_; rintro e W2 ⟨tp, p, rfl, hb2⟩; have hE2 := (hb2.cell (p := ⟨0, 0, none⟩) (by show 0 < _; omega)).trans hE1; have hc5 := (keepC W2 w0.heap.size hb2 (by omega)).1.trans hc2; have hf5 := (keepC W2 w0.heap.size hb2 (by omega)).2.trans hf2; have hc6 := (keepC W2 (w0.heap.size + 1) hb2 (by omega)).1.trans hc3; have hf6 := (keepC W2 (w0.heap.size + 1) hb2 (by omega)).2.trans hf3)
      have dE3 : W2.drew.cell? ⟨0, 0, none⟩ = some (.iface 135 (.pointer (some p0))) := hE2
      have d5 : W2.drew.cell? ⟨w0.heap.size, 0, none⟩ = some (.slice none 0 0) := hc5
      have df5 : W2.drew.frozen? ⟨w0.heap.size, 0, none⟩ = false := hf5
      have d6 : W2.drew.cell? ⟨w0.heap.size + 1, 0, none⟩ = some .nilIface := hc6
      have df6 : W2.drew.frozen? ⟨w0.heap.size + 1, 0, none⟩ = false := hf6
      have e5 : (W2.drew.setCell ⟨w0.heap.size, 0, none⟩ (.slice none 0 0)).cell? ⟨w0.heap.size + 1, 0, none⟩ = some .nilIface := (World.cell?_setCell_far _ _ _ _ (by simp)).trans d6
      have e6 : (W2.drew.setCell ⟨w0.heap.size, 0, none⟩ (.slice none 0 0)).cell? ⟨0, 0, none⟩ = some (.iface 135 (.pointer (some p0))) := (World.cell?_setCell_far _ _ _ _ (show w0.heap.size ≠ 0 by omega)).trans dE3
      have e7 : (W2.drew.setCell ⟨w0.heap.size, 0, none⟩ (.slice none 0 0)).frozen? ⟨w0.heap.size + 1, 0, none⟩ = false := by rw [World.frozen?_setCell]; exact df6
      have hne1 : ¬ w0.heap.size = 0 := by omega
      gi_region_with_o (fail)
      all_goals
        gi_wp2
        obtain ⟨k1, k2, k3, k4, k5⟩ := end_in (u := .slice none 0 0) (z := .iface 135 (.pointer (some p0))) rfl hI.below hb2 hK hI.r2 hI.r3
        refine ⟨by simp, .inl ⟨_, _, rfl, run_takeDeferred k1, ?_⟩⟩
        refine ⟨.tuple #[.slice none 0 0, .iface 135 (.pointer (some p0))], ?_, .nilIface, .inl ⟨rfl, ?_⟩, ⟨k4.os, k4.tape, k4.output, k4.size, k4.block⟩⟩
        · have k2' : ((((W2.setCell ⟨w0.heap.size, 0, none⟩ (.slice none 0 0)).setCell ⟨w0.heap.size + 1, 0, none⟩ (.iface 135 (.pointer (some p0)))).drew).putObj (w0.heap.size + 3 + 3) (.deferred none)).cell? ⟨w0.heap.size, 0, none⟩ = some (.slice none 0 0) := k2
          have k3' : ((((W2.setCell ⟨w0.heap.size, 0, none⟩ (.slice none 0 0)).setCell ⟨w0.heap.size + 1, 0, none⟩ (.iface 135 (.pointer (some p0)))).drew).putObj (w0.heap.size + 3 + 3) (.deferred none)).cell? ⟨w0.heap.size + 1, 0, none⟩ = some (.iface 135 (.pointer (some p0))) := k3
          simp [results, Tryd.f9, go_sem, k2', k3']
        · rw [readR, hI.nums]
          exact if_neg fun h => hv h.2
  case stop =>
    rintro pre W ⟨post, hp⟩ hX hK
    obtain ⟨hc2, hf2⟩ := cellW _ _ _ _ hX.r2
    obtain ⟨hc3, hf3⟩ := cellW _ _ _ _ hX.r3
    gi_wp2
    have hKl : w0.heap.size + 3 + 3 < W.heap.size := (Array.getElem?_eq_some_iff.1 hK).1
    refine ⟨by simp, .inl ⟨_, _, rfl, run_takeDeferred hK, ?_⟩⟩
    have far : ∀ k, k < w0.heap.size + 3 → (W.putObj (w0.heap.size + 3 + 3) (.deferred none)).heap[k]? = W.heap[k]? := fun k hk => World.putObj_heap_other (by omega)
    have hc4 : (W.putObj (w0.heap.size + 3 + 3) (.deferred none)).cell? ⟨w0.heap.size, 0, none⟩ = some (.slice none 0 0) := (World.cell?_of_block (w := W) (far w0.heap.size (by omega))).trans hc2
    have hc5 : (W.putObj (w0.heap.size + 3 + 3) (.deferred none)).cell? ⟨w0.heap.size + 1, 0, none⟩ = some (.iface 135 (.pointer (some p0))) := (World.cell?_of_block (w := W) (far (w0.heap.size + 1) (by omega))).trans hc3
    refine ⟨.tuple #[.slice none 0 0, .iface 135 (.pointer (some p0))], by simp [results, Tryd.f9, go_sem, hc4, hc5], .nilIface, .inl ⟨rfl, ?_⟩, hX.below.trans ⟨rfl, rfl, rfl, by simp, fun k hk => far k (by omega)⟩⟩
    rw [readR]
    split
    · rename_i ys hys
      rw [if_neg]
      rintro ⟨h1, _⟩
      rw [← hp, numsOf, List.mapM_append] at hys
      cases hq : numsOf pre with
      | none =>
        rw [numsOf] at hq
        rw [hq] at hys
        simp at hys
      | some zs =>
        have := hX.bad zs hq
        rw [numsOf] at hq
        rw [hq] at hys
        simp only [Option.pure_def, Option.bind_eq_bind, Option.bind_some] at hys
        cases hr : post.mapM numOf with
        | none => simp [hr] at hys
        | some us =>
          simp [hr] at hys
          subst hys
          rw [List.length_append] at h1
          omega
    · rfl
end Go.Proofs.YtahbmdchcbnolaaDoor
