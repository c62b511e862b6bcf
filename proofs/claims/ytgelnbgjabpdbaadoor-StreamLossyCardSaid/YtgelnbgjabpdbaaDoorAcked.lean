/- Streams: Acked, and what it calls (slices.DeleteFunc, slices.IndexFunc), for rows of any messages. -/
import Derived.Test.YtgelnbgjabpdbaaDoorSk
import Derived.Test.YtgelnbgjabpdbaaDoorSx11
namespace Go.Proofs.YtgelnbgjabpdbaaDoor
open Go Go.Sx

theorem clo36 {w0 : World} {c : Nat} {k : Int} {m : MV} (h1 : m.one) (hc : w0.heap[c]? = some (.cells #[.int .i64 k] 3 (0, 0))) :
    Calls Tryd.prog 36 #[.agg m.arr, .pointer (some ⟨c, 0, none⟩)] w0 fun e w' => e = .returned (.bool (decide (m.seq ≤ k))) ∧ Fr [] w0 w' := by
  obtain ⟨h1, h2⟩ := h1
  refine en36 (args := [.agg m.arr, .pointer (some ⟨c, 0, none⟩)]) (h := []) (r := [(c, .cells #[.int .i64 k] 3 (0, 0))]) (F := [([], w0)]) (by kernel_rfl) (own_nil (by simpa using hc)) (by simp [Fr.refl]) (by simp) ?_
  refine J_seq ?_
  refine J_reg mixed [.wr 0 [] 0, .rd 1 [] 0 0] [] [1, 2, 3] (E1 := fun nu1 => [(1, .val (.pointer (some (⟨c, 0, none⟩)))), (2, .val (.pointer (some (⟨nu1 0, 0, none⟩)))), (3, .val (.bool false))]) (h1 := fun nu1 => [(nu1 0, .cells #[.int .i64 m.src, .int .i64 m.dst, .int .i64 m.shard, .int .i64 m.seq, .int .i64 m.time, .bool m.beat, m.wv, .int .i64 m.place, m.ov] 37 (0, 0))]) (p1 := fun nu1 => []) (W1 := []) (by kernel_rfl) (fun _ => by kernel_rfl) (fun _ => trivial) (fun nu1 => ?_)
  refine J_seq ?_
  refine J_reg mixed [.rd 0 [] 0 0, .rd 1 [.o 0 none] 0 0, .rd 2 [.r 0 none] 0 0, .rd 3 [] 0 0, .rd 4 [] 0 0] [] [3] (E1 := fun _ => [(3, .val (.bool (decide (m.seq ≤ k))))]) (h1 := fun _ => [(nu1 0, .cells #[.int .i64 m.src, .int .i64 m.dst, .int .i64 m.shard, .int .i64 m.seq, .int .i64 m.time, .bool m.beat, m.wv, .int .i64 m.place, m.ov] 37 (0, 0))]) (p1 := fun _ => []) (W1 := []) (by kernel_rfl) (fun _ => by kernel_rfl) (fun _ => trivial) (fun _ => ?_)
  refine J_return [[]] (.bool (decide (m.seq ≤ k))) (by kernel_rfl) (fun a w s => ?_)
  exact ⟨rfl, s.fr _ (List.mem_cons_self ..)⟩

/-- Messages are found by their number: the first one up to k. -/
def firstUp (k : Int) : List MV → Nat → Int
  | [], _ => -1
  | m :: l, i => if m.seq ≤ k then i else firstUp k l (i + 1)

abbrev clo (c : Nat) : Value := .func (.func 36) #[] #[.pointer (some ⟨c, 0, none⟩)]

theorem cells9 {cur : Array Value} {cap : Nat} {l : List MV} (h : Row cur cap l.length 9 (flat MV.cells l)) {i : Int} {m : MV} (hm : l[i.toNat]? = some m) :
    cur[0 + i.toNat * 9]? = some (.int .i64 m.src) ∧ cur[0 + i.toNat * 9 + 1]? = some (.int .i64 m.dst) ∧ cur[0 + i.toNat * 9 + 2]? = some (.int .i64 m.shard) ∧ cur[0 + i.toNat * 9 + 3]? = some (.int .i64 m.seq) ∧ cur[0 + i.toNat * 9 + 4]? = some (.int .i64 m.time) ∧ cur[0 + i.toNat * 9 + 5]? = some (.bool m.beat) ∧ cur[0 + i.toNat * 9 + 6]? = some m.wv ∧ cur[0 + i.toNat * 9 + 7]? = some (.int .i64 m.place) ∧ cur[0 + i.toNat * 9 + 8]? = some m.ov :=
  ⟨h.cellz MV.len hm (j := 0) rfl, h.cellz MV.len hm (j := 1) rfl, h.cellz MV.len hm (j := 2) rfl, h.cellz MV.len hm (j := 3) rfl, h.cellz MV.len hm (j := 4) rfl, h.cellz MV.len hm (j := 5) rfl, h.cellz MV.len hm (j := 6) rfl, h.cellz MV.len hm (j := 7) rfl, h.cellz MV.len hm (j := 8) rfl⟩

def IE (g n cap c : Nat) (i : Int) : Env := [(0, .val (.slice (some ⟨g, 0, none⟩) n cap)), (1, .val (clo c)), (7, .val (.int .i64 (n : Nat))), (8, .val (.int .i64 i))]
theorem index44 {w0 : World} {g c cap : Nat} {cur : Array Value} {k : Int} {l : List MV} (hl : l.length < 100000) (h1 : ∀ m ∈ l, m.one)
    (hg : w0.heap[g]? = some (.cells cur 37 (0, 0))) (hc : w0.heap[c]? = some (.cells #[.int .i64 k] 3 (0, 0))) (hrow : Row cur cap l.length 9 (flat MV.cells l)) :
    Calls Tryd.prog 44 #[.slice (some ⟨g, 0, none⟩) l.length cap, clo c] w0 fun e w' => ∃ i : Int, e = .returned (.int .i64 i) ∧ Fr [] w0 w' ∧ ((i = -1 ∧ ∀ m ∈ l, k < m.seq) ∨ (0 ≤ i ∧ i < l.length ∧ (∀ m ∈ l.take i.toNat, k < m.seq) ∧ ∀ m, l[i.toNat]? = some m → m.seq ≤ k)) := by
  refine en44 (args := [.slice (some ⟨g, 0, none⟩) l.length cap, clo c]) (h := []) (r := [(g, .cells cur 37 (0, 0)), (c, .cells #[.int .i64 k] 3 (0, 0))]) (F := [([], w0)]) (by kernel_rfl) (own_nil (by simp [hg, hc])) (by simp [Fr.refl]) (by simp) ?_
  refine J_seq ?_
  refine J_reg mixed [.rd 0 [] 0 0] [] [0, 1, 4] (E1 := fun _ => [(0, .val (.slice (some (⟨g, 0, none⟩)) l.length cap)), (1, .val (.func (.func 36) #[] #[.pointer (some (⟨c, 0, none⟩))])), (4, .val (.int .i64 0))]) (h1 := fun _ => []) (p1 := fun _ => []) (W1 := []) (by kernel_rfl) (fun _ => by kernel_rfl) (fun _ => trivial) (fun _ => ?_)
  refine J_seq ?_
  refine J_seq ?_
  refine J_reg mixed [.rd 0 [] 0 0, .rd 1 [] 0 0, .rd 2 [] 0 0] [] [0, 1, 4, 7, 8] (E1 := fun _ => [(0, .val (.slice (some (⟨g, 0, none⟩)) l.length cap)), (1, .val (.func (.func 36) #[] #[.pointer (some (⟨c, 0, none⟩))])), (4, .val (.int .i64 0)), (7, .val (.int .i64 (↑l.length : Int))), (8, .val (.int .i64 0))]) (h1 := fun _ => []) (p1 := fun _ => []) (W1 := []) (by kernel_rfl) (fun _ => by kernel_rfl) (fun _ => trivial) (fun _ => ?_)
  refine J_block ?_
  refine J_loopx (IE g l.length cap c) (fun _ => []) (fun i => (l.length - i).toNat) (fun i _ => 0 ≤ i ∧ i ≤ l.length ∧ ∀ m ∈ l.take i.toNat, k < m.seq) (0 : Int) [0, 1, 7, 8] (fun _ _ _ => ⟨by omega, by omega, by simp⟩) (by kernel_rfl) rfl ?_
  rintro i w ⟨hi0, hi, hx⟩
  refine J_seq ?_
  refine J_reg mixed [.rd 0 [] 0 0] [] [0, 1, 7, 8, 9] (E1 := fun _ => [(0, .val (.slice (some (⟨g, 0, none⟩)) l.length cap)), (1, .val (.func (.func 36) #[] #[.pointer (some (⟨c, 0, none⟩))])), (7, .val (.int .i64 (↑l.length : Int))), (8, .val (.int .i64 i)), (9, .val (.bool (decide (i < (↑l.length : Int)))))]) (h1 := fun _ => []) (p1 := fun _ => []) (W1 := []) (by kernel_rfl) (fun _ => by kernel_rfl) (fun _ => trivial) (fun _ => ?_)
  refine J_seq ?_
  refine J_cond (t := decide (i < (↑l.length : Int))) (by kernel_rfl) (by kernel_rfl) (fun hlt => ?_) (fun hlt => ?_)
  · have hlt2 : i < l.length := by simpa using hlt
    obtain ⟨m, hm⟩ : ∃ m, l[i.toNat]? = some m := ⟨_, List.getElem?_eq_getElem (by omega)⟩
    obtain ⟨f0, f1, f2, f3, f4, f5, f6, f7, f8⟩ := cells9 hrow hm
    have hone := h1 m (List.mem_of_getElem? hm)
    refine J_skip ?_
    refine J_seq ?_
    refine J_block ?_
    refine J_seq ?_
    refine J_reg mixed [.rd 0 [] 0 0, .rd 1 [] 0 0] [] [0, 1, 5, 7, 8] (E1 := fun _ => [(0, .val (.slice (some (⟨g, 0, none⟩)) l.length cap)), (1, .val (.func (.func 36) #[] #[.pointer (some (⟨c, 0, none⟩))])), (5, .val (.int .i64 i)), (7, .val (.int .i64 (↑l.length : Int))), (8, .val (.int .i64 i))]) (h1 := fun _ => []) (p1 := fun _ => []) (W1 := []) (by kernel_rfl) (fun _ => by kernel_rfl) (fun _ => trivial) (fun _ => ?_)
    refine J_seq ?_
    refine JR_begin mixed [(0, true), (1, true), (2, true), (3, true), (4, true), (5, false)] [] (by kernel_rfl) (by kernel_rfl) ?_
    refine JR_run (id := 4) (rest := [(5, false)]) [.rd 0 [] 0 0, .rd 1 [] 0 0, .rd 2 [] 0 0, .rd 3 [] 0 2, .rd 4 [.r 0 (some (.int .i64 m.src)), .r 0 (some (.int .i64 m.dst)), .r 0 (some (.int .i64 m.shard)), .r 0 (some (.int .i64 m.seq)), .r 0 (some (.int .i64 m.time)), .r 0 (some (.bool m.beat)), .r 0 (some (m.wv)), .r 0 (some (.int .i64 m.place)), .r 0 (some (m.ov))] 0 0] [0, 1, 5, 7, 8, 11, 15] (E1 := fun _ => [(0, .val (.slice (some (⟨g, 0, none⟩)) l.length cap)), (1, .val (.func (.func 36) #[] #[.pointer (some (⟨c, 0, none⟩))])), (5, .val (.int .i64 i)), (7, .val (.int .i64 (↑l.length : Int))), (8, .val (.int .i64 i)), (11, .val (.func (.func 36) #[] #[.pointer (some (⟨c, 0, none⟩))])), (15, .val (.agg #[.int .i64 m.src, .int .i64 m.dst, .int .i64 m.shard, .int .i64 m.seq, .int .i64 m.time, .bool m.beat, m.wv, .int .i64 m.place, m.ov]))]) (h1 := fun _ => []) (p1 := fun _ => [(0 : Int) ≤ i, i < (↑l.length : Int), cur[(0 : Nat) + i.toNat * (9 : Nat)]? = some (Value.int IntKind.i64 m.src), cur[(0 : Nat) + i.toNat * (9 : Nat) + (1 : Nat)]? = some (Value.int IntKind.i64 m.dst), cur[(0 : Nat) + i.toNat * (9 : Nat) + (2 : Nat)]? = some (Value.int IntKind.i64 m.shard), cur[(0 : Nat) + i.toNat * (9 : Nat) + (3 : Nat)]? = some (Value.int IntKind.i64 m.seq), cur[(0 : Nat) + i.toNat * (9 : Nat) + (4 : Nat)]? = some (Value.int IntKind.i64 m.time), cur[(0 : Nat) + i.toNat * (9 : Nat) + (5 : Nat)]? = some (Value.bool m.beat), cur[(0 : Nat) + i.toNat * (9 : Nat) + (6 : Nat)]? = some m.wv, cur[(0 : Nat) + i.toNat * (9 : Nat) + (7 : Nat)]? = some (Value.int IntKind.i64 m.place), cur[(0 : Nat) + i.toNat * (9 : Nat) + (8 : Nat)]? = some m.ov]) (W1 := []) (fun _ => by kernel_rfl) (fun _ => ⟨hi0, hlt2, f0, f1, f2, f3, f4, f5, f6, f7, f8, trivial⟩) (fun _ => ?_)
    refine JR_call [] [] 36 #[.agg #[.int .i64 m.src, .int .i64 m.dst, .int .i64 m.shard, .int .i64 m.seq, .int .i64 m.time, .bool m.beat, m.wv, .int .i64 m.place, m.ov], .pointer (some (⟨c, 0, none⟩))] (some 16) (by kernel_rfl) (by kernel_rfl) (fun a w s => ?_)
    refine (clo36 hone (s.own.ro _ (List.mem_cons_of_mem _ (List.mem_cons_self ..)))).mono ?_
    rintro e w2 ⟨rfl, hf2⟩
    refine ⟨_, _, rfl, (did_pure s hf2).1, (did_pure s hf2).2, ?_⟩
    refine JR_end ?_
    refine J_cond (t := decide (m.seq ≤ k)) (by kernel_rfl) (by kernel_rfl) (fun hq => ?_) (fun hq => ?_)
    · refine J_seq ?_
      refine J_reg mixed [.rd 0 [] 0 0, .rd 1 [] 0 0] [] [0, 1, 4, 5, 7, 8, 11, 15] (E1 := fun _ => [(0, .val (.slice (some (⟨g, 0, none⟩)) l.length cap)), (1, .val (.func (.func 36) #[] #[.pointer (some (⟨c, 0, none⟩))])), (4, .val (.int .i64 i)), (5, .val (.int .i64 i)), (7, .val (.int .i64 (↑l.length : Int))), (8, .val (.int .i64 i)), (11, .val (.func (.func 36) #[] #[.pointer (some (⟨c, 0, none⟩))])), (15, .val (.agg #[.int .i64 m.src, .int .i64 m.dst, .int .i64 m.shard, .int .i64 m.seq, .int .i64 m.time, .bool m.beat, m.wv, .int .i64 m.place, m.ov]))]) (h1 := fun _ => []) (p1 := fun _ => []) (W1 := []) (by kernel_rfl) (fun _ => by kernel_rfl) (fun _ => trivial) (fun _ => ?_)
      refine J_return [[]] (.int .i64 i) (by kernel_rfl) (fun a w s => ?_)
      refine ⟨i, rfl, s.fr ([], w0) (by simp), .inr ⟨hi0, hlt2, hx, fun m' hm' => ?_⟩⟩
      rw [hm] at hm'
      cases hm'
      simpa using hq
    · refine J_skip ?_
      refine J_eb ?_
      refine J_reg mixed [.rd 0 [] 0 1, .rd 1 [] 0 0] [] [0, 1, 5, 7, 8, 11, 15] (E1 := fun _ => [(0, .val (.slice (some (⟨g, 0, none⟩)) l.length cap)), (1, .val (.func (.func 36) #[] #[.pointer (some (⟨c, 0, none⟩))])), (5, .val (.int .i64 i)), (7, .val (.int .i64 (↑l.length : Int))), (8, .val (.int .i64 (i + 1))), (11, .val (.func (.func 36) #[] #[.pointer (some (⟨c, 0, none⟩))])), (15, .val (.agg #[.int .i64 m.src, .int .i64 m.dst, .int .i64 m.shard, .int .i64 m.seq, .int .i64 m.time, .bool m.beat, m.wv, .int .i64 m.place, m.ov]))]) (h1 := fun _ => []) (p1 := fun _ => [IntKind.i64.wrap (i + (1 : Int)) = i + (1 : Int)]) (W1 := []) (by kernel_rfl) (fun _ => by kernel_rfl) (fun _ => ⟨wrap_i64 (by omega) (by omega), trivial⟩) (fun _ => ?_)
      have hq2 : k < m.seq := by simpa using hq
      refine J_backx (i + 1) [0, 1, 7, 8] (fun _ _ _ => ⟨by omega, by omega, fun m' hm' => ?_⟩) (by omega) (by kernel_rfl) (by simp) (by simp) (by simp) (by simp)
      have e1 : (i + 1).toNat = i.toNat + 1 := by omega
      rw [e1, List.take_add_one, hm, List.mem_append] at hm'
      rcases hm' with hm' | hm'
      · exact hx m' hm'
      · simp at hm'
        subst hm'
        exact hq2
  · have he : i = l.length := by simp at hlt; omega
    refine J_exit rfl ?_
    refine J_seq ?_
    refine J_reg mixed [.rd 0 [] 0 0] [] [4] (E1 := fun _ => [(4, .val (.int .i64 (-1)))]) (h1 := fun _ => []) (p1 := fun _ => []) (W1 := []) (by kernel_rfl) (fun _ => by kernel_rfl) (fun _ => trivial) (fun _ => ?_)
    refine J_return [[]] (.int .i64 (-1)) (by kernel_rfl) (fun a w s => ?_)
    refine ⟨-1, rfl, s.fr ([], w0) (by simp), .inl ⟨rfl, fun m hm => hx m ?_⟩⟩
    rw [he]
    simpa using hm

structure DS where
  i : Int
  j : Int
  l : List MV
  cur : Array Value
def DS.E (g n cap c : Nat) (x : DS) : Env := [(0, .val (.slice (some ⟨g, 0, none⟩) n cap)), (1, .val (clo c)), (5, .val (.int .i64 x.i)), (6, .val (.int .i64 x.j))]
def DS.ok (k : Int) (l : List MV) (cap : Nat) (x : DS) (_ : World) : Prop :=
  0 ≤ x.i ∧ x.i < x.j ∧ x.j ≤ l.length ∧ x.l.length = l.length ∧ Row x.cur cap l.length 9 (flat MV.cells x.l) ∧ x.l.take x.i.toNat = (l.take x.j.toNat).filter (fun m => decide (k < m.seq)) ∧ x.l.drop x.j.toNat = l.drop x.j.toNat

theorem drop_at {α : Type} {L l : List α} {j : Nat} (h : L.drop j = l.drop j) : L[j]? = l[j]? := by
  have h1 : (L.drop j)[0]? = (l.drop j)[0]? := by rw [h]
  simpa using h1
theorem filter_snoc {l : List MV} {k : Int} {j : Nat} {m : MV} (hm : l[j]? = some m) : (l.take (j + 1)).filter (fun m => decide (k < m.seq)) = (l.take j).filter (fun m => decide (k < m.seq)) ++ (if k < m.seq then [m] else []) := by
  rw [List.take_add_one, hm, List.filter_append]
  by_cases h : k < m.seq <;> simp [h]

theorem delete35 {w0 : World} {g c cap : Nat} {cur : Array Value} {k : Int} {l : List MV} (hl : l.length < 100000) (h1 : ∀ m ∈ l, m.one) (hgc : g ≠ c)
    (hg : w0.heap[g]? = some (.cells cur 37 (0, 0))) (hc : w0.heap[c]? = some (.cells #[.int .i64 k] 3 (0, 0))) (hrow : Row cur cap l.length 9 (flat MV.cells l)) :
    Calls Tryd.prog 35 #[.slice (some ⟨g, 0, none⟩) l.length cap, clo c] w0 fun e w' => ∃ l2 cur2, l2 = l.filter (fun m => decide (k < m.seq)) ∧ e = .returned (.slice (some ⟨g, 0, none⟩) l2.length cap) ∧ Fr [g] w0 w' ∧ w'.heap[g]? = some (.cells cur2 37 (0, 0)) ∧ Row cur2 cap l2.length 9 (flat MV.cells l2) := by
  refine en35 (args := [.slice (some ⟨g, 0, none⟩) l.length cap, clo c]) (h := [(g, .cells cur 37 (0, 0))]) (r := [(c, .cells #[.int .i64 k] 3 (0, 0))]) (F := [([g], w0)]) (by kernel_rfl) ⟨by simpa [Hp] using hg, by simp, by simpa [Hp] using hc, by simpa using Ne.symm hgc⟩ (by simp [Fr.refl]) (by simp) ?_
  refine J_seq ?_
  refine J_reg mixed [.rd 0 [] 0 0] [] [0, 1, 4] (E1 := fun _ => [(0, .val (.slice (some (⟨g, 0, none⟩)) l.length cap)), (1, .val (.func (.func 36) #[] #[.pointer (some (⟨c, 0, none⟩))])), (4, .val (.slice none 0 0))]) (h1 := fun _ => [(g, .cells cur 37 (0, 0))]) (p1 := fun _ => []) (W1 := []) (by kernel_rfl) (fun _ => by kernel_rfl) (fun _ => trivial) (fun _ => ?_)
  refine J_seq ?_
  refine JR_begin mixed [(0, true), (1, true), (2, false), (3, true)] [] (by kernel_rfl) (by kernel_rfl) ?_
  refine JR_run (id := 1) (rest := [(2, false), (3, true)]) [.rd 0 [] 0 0, .rd 1 [] 0 0] [0, 1, 4, 8, 9] (E1 := fun _ => [(0, .val (.slice (some (⟨g, 0, none⟩)) l.length cap)), (1, .val (.func (.func 36) #[] #[.pointer (some (⟨c, 0, none⟩))])), (4, .val (.slice none 0 0)), (8, .val (.slice (some (⟨g, 0, none⟩)) l.length cap)), (9, .val (.func (.func 36) #[] #[.pointer (some (⟨c, 0, none⟩))]))]) (h1 := fun _ => [(g, .cells cur 37 (0, 0))]) (p1 := fun _ => []) (W1 := []) (fun _ => by kernel_rfl) (fun _ => trivial) (fun _ => ?_)
  refine JR_call [] [] 44 #[.slice (some (⟨g, 0, none⟩)) l.length cap, .func (.func 36) #[] #[.pointer (some (⟨c, 0, none⟩))]] (some 10) (by kernel_rfl) (by kernel_rfl) (fun a w s => ?_)
  refine (index44 hl h1 (s.at 0 rfl) (s.own.ro _ (List.mem_cons_self ..)) hrow).mono ?_
  rintro e w2 ⟨i, rfl, hf2, hi⟩
  refine ⟨_, _, rfl, (did_pure s hf2).1, (did_pure s hf2).2, ?_⟩
  refine JR_run (id := 1) (rest := []) [.rd 3 [] 0 0] [0, 1, 4, 5] (E1 := fun _ => [(0, .val (.slice (some (⟨g, 0, none⟩)) l.length cap)), (1, .val (.func (.func 36) #[] #[.pointer (some (⟨c, 0, none⟩))])), (4, .val (.slice none 0 0)), (5, .val (.int .i64 i))]) (h1 := fun _ => [(g, .cells cur 37 (0, 0))]) (p1 := fun _ => []) (W1 := []) (fun _ => by kernel_rfl) (fun _ => trivial) (fun _ => ?_)
  refine JR_end ?_
  refine J_seq ?_
  refine J_seq ?_
  refine J_reg mixed [.rd 0 [] 0 0, .rd 1 [] 0 0] [] [0, 1, 4, 5, 12] (E1 := fun _ => [(0, .val (.slice (some (⟨g, 0, none⟩)) l.length cap)), (1, .val (.func (.func 36) #[] #[.pointer (some (⟨c, 0, none⟩))])), (4, .val (.slice none 0 0)), (5, .val (.int .i64 i)), (12, .val (.bool (i == -1)))]) (h1 := fun _ => [(g, .cells cur 37 (0, 0))]) (p1 := fun _ => []) (W1 := []) (by kernel_rfl) (fun _ => by kernel_rfl) (fun _ => trivial) (fun _ => ?_)
  refine J_cond (t := i == -1) (by kernel_rfl) (by kernel_rfl) (fun hne => ?_) (fun hne => ?_)
  · have hi1 : i = -1 := by simpa using hne
    subst hi1
    have hall : ∀ m ∈ l, k < m.seq := by
      rcases hi with ⟨_, h⟩ | ⟨h, _⟩
      · exact h
      · omega
    refine J_seq ?_
    refine J_reg mixed [.rd 0 [] 0 0, .rd 1 [] 0 0] [] [0, 1, 4, 5] (E1 := fun _ => [(0, .val (.slice (some (⟨g, 0, none⟩)) l.length cap)), (1, .val (.func (.func 36) #[] #[.pointer (some (⟨c, 0, none⟩))])), (4, .val (.slice (some (⟨g, 0, none⟩)) l.length cap)), (5, .val (.int .i64 (-1)))]) (h1 := fun _ => [(g, .cells cur 37 (0, 0))]) (p1 := fun _ => []) (W1 := []) (by kernel_rfl) (fun _ => by kernel_rfl) (fun _ => trivial) (fun _ => ?_)
    refine J_return [[]] (.slice (some (⟨g, 0, none⟩)) l.length cap) (by kernel_rfl) (fun a w s => ?_)
    have e1 : l.filter (fun m => decide (k < m.seq)) = l := List.filter_eq_self.2 (by simpa using hall)
    exact ⟨_, _, rfl, by rw [e1], s.fr ([g], w0) (by simp), s.at 0 rfl, by rw [e1]; exact hrow⟩
  · obtain ⟨hi0, hin, hbef, hat⟩ : 0 ≤ i ∧ i < l.length ∧ (∀ m ∈ l.take i.toNat, k < m.seq) ∧ ∀ m, l[i.toNat]? = some m → m.seq ≤ k := by
      rcases hi with ⟨h, _⟩ | h
      · subst h; simp at hne
      · exact h
    refine J_skip ?_
    refine J_seq ?_
    refine J_seq ?_
    refine J_reg mixed [.rd 0 [] 0 0, .rd 1 [] 0 1, .rd 2 [] 0 0] [] [0, 1, 4, 5, 6] (E1 := fun _ => [(0, .val (.slice (some (⟨g, 0, none⟩)) l.length cap)), (1, .val (.func (.func 36) #[] #[.pointer (some (⟨c, 0, none⟩))])), (4, .val (.slice none 0 0)), (5, .val (.int .i64 i)), (6, .val (.int .i64 (i + 1)))]) (h1 := fun _ => [(g, .cells cur 37 (0, 0))]) (p1 := fun _ => [IntKind.i64.wrap (i + (1 : Int)) = i + (1 : Int)]) (W1 := []) (by kernel_rfl) (fun _ => by kernel_rfl) (fun _ => ⟨wrap_i64 (by omega) (by omega), trivial⟩) (fun _ => ?_)
    refine J_block ?_
    refine J_loopx (DS.E g l.length cap c) (fun x => [(g, .cells x.cur 37 (0, 0))]) (fun x => (l.length - x.j).toNat) (DS.ok k l cap) ⟨i, i + 1, l, cur⟩ [0, 1, 5, 6] (fun _ _ _ => ⟨hi0, by simp only; omega, by simp only; omega, rfl, hrow, ?_, rfl⟩) (by kernel_rfl) rfl ?_
    · obtain ⟨m, hm⟩ : ∃ m, l[i.toNat]? = some m := ⟨_, List.getElem?_eq_getElem (by omega)⟩
      have e1 : (i + 1).toNat = i.toNat + 1 := by omega
      simp only [e1]
      rw [filter_snoc hm, if_neg (by have := hat m hm; omega), List.append_nil]
      exact (List.filter_eq_self.2 (by simpa using hbef)).symm
    · rintro ⟨i, j, L, cur⟩ w ⟨hi0, hij, hj, hL, hrow, htake, hdrop⟩
      simp only at hi0 hij hj hL hrow htake hdrop
      rw [← hL] at hrow
      refine J_seq ?_
      refine J_seq ?_
      refine J_reg mixed [.rd 0 [] 0 0, .rd 1 [] 0 0, .rd 2 [] 0 0, .rd 3 [] 0 0] [] [0, 1, 5, 6, 19] (E1 := fun _ => [(0, .val (.slice (some (⟨g, 0, none⟩)) l.length cap)), (1, .val (.func (.func 36) #[] #[.pointer (some (⟨c, 0, none⟩))])), (5, .val (.int .i64 i)), (6, .val (.int .i64 j)), (19, .val (.bool (decide (j < (↑l.length : Int)))))]) (h1 := fun _ => [(g, .cells cur 37 (0, 0))]) (p1 := fun _ => []) (W1 := []) (by kernel_rfl) (fun _ => by kernel_rfl) (fun _ => trivial) (fun _ => ?_)
      refine J_cond (t := decide (j < (↑l.length : Int))) (by kernel_rfl) (by kernel_rfl) (fun hlt => ?_) (fun hlt => ?_)
      · have hlt2 : j < l.length := by simpa using hlt
        obtain ⟨m, hm0⟩ : ∃ m, l[j.toNat]? = some m := ⟨_, List.getElem?_eq_getElem (by omega)⟩
        have hm : L[j.toNat]? = some m := by rw [drop_at hdrop, hm0]
        have ej : (j + 1).toNat = j.toNat + 1 := by omega
        have ei : (i + 1).toNat = i.toNat + 1 := by omega
        have hsn := filter_snoc (k := k) hm0
        obtain ⟨f0, f1, f2, f3, f4, f5, f6, f7, f8⟩ := cells9 hrow hm
        have hone := h1 m (List.mem_of_getElem? hm0)
        obtain ⟨ho1, ho2⟩ := hone
        have hdr : L.drop (j.toNat + 1) = l.drop (j.toNat + 1) := by rw [← List.drop_drop, ← List.drop_drop, hdrop]
        refine J_skip ?_
        refine J_seq ?_
        refine J_block ?_
        refine J_seq ?_
        refine J_reg mixed [.rd 0 [] 0 0, .rd 1 [] 0 0, .rd 2 [] 0 2, .rd 3 [.o 0 (some (.int .i64 m.src)), .o 0 (some (.int .i64 m.dst)), .o 0 (some (.int .i64 m.shard)), .o 0 (some (.int .i64 m.seq)), .o 0 (some (.int .i64 m.time)), .o 0 (some (.bool m.beat)), .o 0 (some (m.wv)), .o 0 (some (.int .i64 m.place)), .o 0 (some (m.ov))] 0 0, .wr 4 [] 0, .wr 5 [.o 1 none, .o 1 none, .o 1 none, .o 1 none, .o 1 none, .o 1 none, .o 1 (some (m.wv)), .o 1 none, .o 1 (some (m.ov))] 0] [(5, [])] [0, 1, 5, 6, 7] (E1 := fun nu1 => [(0, .val (.slice (some (⟨g, 0, none⟩)) l.length cap)), (1, .val (.func (.func 36) #[] #[.pointer (some (⟨c, 0, none⟩))])), (5, .val (.int .i64 i)), (6, .val (.int .i64 j)), (7, .val (.pointer (some (⟨nu1 0, 0, none⟩))))]) (h1 := fun nu1 => [(g, .cells cur 37 (0, 0)), (nu1 0, .cells #[.int .i64 m.src, .int .i64 m.dst, .int .i64 m.shard, .int .i64 m.seq, .int .i64 m.time, .bool m.beat, m.wv, .int .i64 m.place, m.ov] 37 (0, 0))]) (p1 := fun nu1 => [(0 : Int) ≤ j, j < (↑l.length : Int), cur[(0 : Nat) + j.toNat * (9 : Nat)]? = some (Value.int IntKind.i64 m.src), cur[(0 : Nat) + j.toNat * (9 : Nat) + (1 : Nat)]? = some (Value.int IntKind.i64 m.dst), cur[(0 : Nat) + j.toNat * (9 : Nat) + (2 : Nat)]? = some (Value.int IntKind.i64 m.shard), cur[(0 : Nat) + j.toNat * (9 : Nat) + (3 : Nat)]? = some (Value.int IntKind.i64 m.seq), cur[(0 : Nat) + j.toNat * (9 : Nat) + (4 : Nat)]? = some (Value.int IntKind.i64 m.time), cur[(0 : Nat) + j.toNat * (9 : Nat) + (5 : Nat)]? = some (Value.bool m.beat), cur[(0 : Nat) + j.toNat * (9 : Nat) + (6 : Nat)]? = some m.wv, cur[(0 : Nat) + j.toNat * (9 : Nat) + (7 : Nat)]? = some (Value.int IntKind.i64 m.place), cur[(0 : Nat) + j.toNat * (9 : Nat) + (8 : Nat)]? = some m.ov, m.wv.oneCell' = true, (6 : Nat) < #[Value.int IntKind.i64 m.src, Value.int IntKind.i64 m.dst, Value.int IntKind.i64 m.shard, Value.int IntKind.i64 m.seq, Value.int IntKind.i64 m.time, Value.bool m.beat, Value.slice none (0 : Nat) (0 : Nat), Value.int IntKind.i64 (0 : Int), Value.slice none (0 : Nat) (0 : Nat)].size, m.ov.oneCell' = true, (8 : Nat) < #[Value.int IntKind.i64 m.src, Value.int IntKind.i64 m.dst, Value.int IntKind.i64 m.shard, Value.int IntKind.i64 m.seq, Value.int IntKind.i64 m.time, Value.bool m.beat, m.wv, Value.int IntKind.i64 m.place, Value.slice none (0 : Nat) (0 : Nat)].size]) (W1 := []) (by kernel_rfl) (fun _ => by kernel_rfl) (fun _ => ⟨by omega, hlt2, f0, f1, f2, f3, f4, f5, f6, f7, f8, ho1, by simp; done, ho2, by simp; done, trivial⟩) (fun nu1 => ?_)
        refine J_seq ?_
        refine JR_begin mixed [(0, true), (1, true), (2, false), (3, true)] [] (by kernel_rfl) (by kernel_rfl) ?_
        refine JR_run (id := 8) (rest := [(2, false), (3, true)]) [.rd 0 [] 0 0, .rd 1 [.o 1 none, .o 1 none, .o 1 none, .o 1 none, .o 1 none, .o 1 none, .o 1 none, .o 1 none, .o 1 none] 0 0] [0, 1, 5, 6, 7, 26, 27] (E1 := fun _ => [(0, .val (.slice (some (⟨g, 0, none⟩)) l.length cap)), (1, .val (.func (.func 36) #[] #[.pointer (some (⟨c, 0, none⟩))])), (5, .val (.int .i64 i)), (6, .val (.int .i64 j)), (7, .val (.pointer (some (⟨nu1 0, 0, none⟩)))), (26, .val (.func (.func 36) #[] #[.pointer (some (⟨c, 0, none⟩))])), (27, .val (.agg #[.int .i64 m.src, .int .i64 m.dst, .int .i64 m.shard, .int .i64 m.seq, .int .i64 m.time, .bool m.beat, m.wv, .int .i64 m.place, m.ov]))]) (h1 := fun _ => [(g, .cells cur 37 (0, 0)), (nu1 0, .cells #[.int .i64 m.src, .int .i64 m.dst, .int .i64 m.shard, .int .i64 m.seq, .int .i64 m.time, .bool m.beat, m.wv, .int .i64 m.place, m.ov] 37 (0, 0))]) (p1 := fun _ => []) (W1 := []) (fun _ => by kernel_rfl) (fun _ => trivial) (fun _ => ?_)
        refine JR_call [] [] 36 #[.agg #[.int .i64 m.src, .int .i64 m.dst, .int .i64 m.shard, .int .i64 m.seq, .int .i64 m.time, .bool m.beat, m.wv, .int .i64 m.place, m.ov], .pointer (some (⟨c, 0, none⟩))] (some 28) (by kernel_rfl) (by kernel_rfl) (fun a w s => ?_)
        refine (clo36 ⟨ho1, ho2⟩ (s.own.ro _ (List.mem_cons_self ..))).mono ?_
        rintro e w2 ⟨rfl, hf2⟩
        refine ⟨_, _, rfl, (did_pure s hf2).1, (did_pure s hf2).2, ?_⟩
        refine JR_run (id := 8) (rest := []) [.rd 3 [] 0 0] [0, 1, 5, 6, 7, 29] (E1 := fun _ => [(0, .val (.slice (some (⟨g, 0, none⟩)) l.length cap)), (1, .val (.func (.func 36) #[] #[.pointer (some (⟨c, 0, none⟩))])), (5, .val (.int .i64 i)), (6, .val (.int .i64 j)), (7, .val (.pointer (some (⟨nu1 0, 0, none⟩)))), (29, .val (.bool (!decide (m.seq ≤ k))))]) (h1 := fun _ => [(g, .cells cur 37 (0, 0)), (nu1 0, .cells #[.int .i64 m.src, .int .i64 m.dst, .int .i64 m.shard, .int .i64 m.seq, .int .i64 m.time, .bool m.beat, m.wv, .int .i64 m.place, m.ov] 37 (0, 0))]) (p1 := fun _ => []) (W1 := []) (fun _ => by kernel_rfl) (fun _ => trivial) (fun _ => ?_)
        refine JR_end ?_
        refine J_cond (t := !decide (m.seq ≤ k)) (by kernel_rfl) (by kernel_rfl) (fun hq => ?_) (fun hq => ?_)
        · have hq2 : k < m.seq := by simpa using hq
          have hsz := hrow.siz
          have hle := hrow.le
          have hcur : 0 + i.toNat * 9 + 9 ≤ cur.size := by omega
          refine J_seq ?_
          refine JR_begin mixed [(0, true), (1, true), (2, true), (3, true), (4, false)] [] (by kernel_rfl) (by kernel_rfl) ?_
          refine JR_run (id := 9) (rest := [(4, false)]) [.rd 0 [] 0 0, .rd 1 [] 0 0, .rd 2 [.o 1 none, .o 1 none, .o 1 none, .o 1 none, .o 1 none, .o 1 none, .o 1 none, .o 1 none, .o 1 none] 0 0, .rd 3 [] 0 2] [0, 1, 5, 6, 7, 32, 33] (E1 := fun _ => [(0, .val (.slice (some (⟨g, 0, none⟩)) l.length cap)), (1, .val (.func (.func 36) #[] #[.pointer (some (⟨c, 0, none⟩))])), (5, .val (.int .i64 i)), (6, .val (.int .i64 j)), (7, .val (.pointer (some (⟨nu1 0, 0, none⟩)))), (32, .val (.agg #[.int .i64 m.src, .int .i64 m.dst, .int .i64 m.shard, .int .i64 m.seq, .int .i64 m.time, .bool m.beat, m.wv, .int .i64 m.place, m.ov])), (33, .val (.pointer (some (⟨g, 0 + i.toNat * 9, none⟩))))]) (h1 := fun _ => [(g, .cells cur 37 (0, 0)), (nu1 0, .cells #[.int .i64 m.src, .int .i64 m.dst, .int .i64 m.shard, .int .i64 m.seq, .int .i64 m.time, .bool m.beat, m.wv, .int .i64 m.place, m.ov] 37 (0, 0))]) (p1 := fun _ => [(0 : Int) ≤ i, i < (↑l.length : Int)]) (W1 := []) (fun _ => by kernel_rfl) (fun _ => ⟨hi0, by omega, trivial⟩) (fun _ => ?_)
          refine JR_storerow 0 g (0 + i.toNat * 9) 37 37 (.agg #[.int .i64 m.src, .int .i64 m.dst, .int .i64 m.shard, .int .i64 m.seq, .int .i64 m.time, .bool m.beat, m.wv, .int .i64 m.place, m.ov]) [.int .i64 m.src, .int .i64 m.dst, .int .i64 m.shard, .int .i64 m.seq, .int .i64 m.time, .bool m.beat, m.wv, .int .i64 m.place, m.ov] none (by kernel_rfl) (by kernel_rfl) (by kernel_rfl) rfl rfl rfl hcur (MV.ones ⟨ho1, ho2⟩) ?_
          refine JR_end ?_
          refine J_reg mixed [.rd 0 [] 0 0, .rd 1 [] 0 1, .rd 2 [] 0 0] [] [0, 1, 5, 6, 7, 32, 33] (E1 := fun _ => [(0, .val (.slice (some (⟨g, 0, none⟩)) l.length cap)), (1, .val (.func (.func 36) #[] #[.pointer (some (⟨c, 0, none⟩))])), (5, .val (.int .i64 (i + 1))), (6, .val (.int .i64 j)), (7, .val (.pointer (some (⟨nu1 0, 0, none⟩)))), (32, .val (.agg #[.int .i64 m.src, .int .i64 m.dst, .int .i64 m.shard, .int .i64 m.seq, .int .i64 m.time, .bool m.beat, m.wv, .int .i64 m.place, m.ov])), (33, .val (.pointer (some (⟨g, 0 + i.toNat * 9, none⟩))))]) (h1 := fun _ => [(g, .cells (seg cur (0 + i.toNat * 9) [Value.int IntKind.i64 m.src, Value.int IntKind.i64 m.dst, Value.int IntKind.i64 m.shard, Value.int IntKind.i64 m.seq, Value.int IntKind.i64 m.time, Value.bool m.beat, m.wv, Value.int IntKind.i64 m.place, m.ov]) 37 (0, 0)), (nu1 0, .cells #[.int .i64 m.src, .int .i64 m.dst, .int .i64 m.shard, .int .i64 m.seq, .int .i64 m.time, .bool m.beat, m.wv, .int .i64 m.place, m.ov] 37 (0, 0))]) (p1 := fun _ => [IntKind.i64.wrap (i + (1 : Int)) = i + (1 : Int)]) (W1 := []) (by kernel_rfl) (fun _ => by kernel_rfl) (fun _ => ⟨wrap_i64 (by omega) (by omega), trivial⟩) (fun _ => ?_)
          refine J_eb ?_
          refine J_reg mixed [.rd 0 [] 0 0, .rd 1 [] 0 1, .rd 2 [] 0 0] [] [0, 1, 5, 6, 7, 32, 33] (E1 := fun _ => [(0, .val (.slice (some (⟨g, 0, none⟩)) l.length cap)), (1, .val (.func (.func 36) #[] #[.pointer (some (⟨c, 0, none⟩))])), (5, .val (.int .i64 (i + 1))), (6, .val (.int .i64 (j + 1))), (7, .val (.pointer (some (⟨nu1 0, 0, none⟩)))), (32, .val (.agg #[.int .i64 m.src, .int .i64 m.dst, .int .i64 m.shard, .int .i64 m.seq, .int .i64 m.time, .bool m.beat, m.wv, .int .i64 m.place, m.ov])), (33, .val (.pointer (some (⟨g, 0 + i.toNat * 9, none⟩))))]) (h1 := fun _ => [(g, .cells (seg cur (0 + i.toNat * 9) [Value.int IntKind.i64 m.src, Value.int IntKind.i64 m.dst, Value.int IntKind.i64 m.shard, Value.int IntKind.i64 m.seq, Value.int IntKind.i64 m.time, Value.bool m.beat, m.wv, Value.int IntKind.i64 m.place, m.ov]) 37 (0, 0)), (nu1 0, .cells #[.int .i64 m.src, .int .i64 m.dst, .int .i64 m.shard, .int .i64 m.seq, .int .i64 m.time, .bool m.beat, m.wv, .int .i64 m.place, m.ov] 37 (0, 0))]) (p1 := fun _ => [IntKind.i64.wrap (j + (1 : Int)) = j + (1 : Int)]) (W1 := []) (by kernel_rfl) (fun _ => by kernel_rfl) (fun _ => ⟨wrap_i64 (by omega) (by omega), trivial⟩) (fun _ => ?_)
          have hlt3 : i.toNat < L.length := by omega
          rw [if_pos hq2] at hsn
          refine J_backx (⟨i + 1, j + 1, L.set i.toNat m, seg cur (0 + i.toNat * 9) m.cells⟩ : DS) [0, 1, 5, 6] (fun _ _ _ => ⟨by simp only; omega, by simp only; omega, by simp only; omega, by simp [hL], ?_, ?_, ?_⟩) (by simp only; omega) (by kernel_rfl) (by simp) (by simp) (by simp) (by simp)
          · simp only [Nat.zero_add]
            rw [← hL]
            exact hrow.turnx MV.len hlt3 m
          · simp only [ei, ej]
            rw [hsn, ← htake, List.take_add_one, List.take_set_of_le (Nat.le_refl _), List.getElem?_set_self hlt3]
            rfl
          · simp only [ej]
            rw [List.drop_set_of_lt (by omega)]
            exact hdr
        · have hq2 : ¬ k < m.seq := by simpa using hq
          rw [if_neg hq2, List.append_nil, ← htake] at hsn
          refine J_skip ?_
          refine J_eb ?_
          refine J_reg mixed [.rd 0 [] 0 0, .rd 1 [] 0 1, .rd 2 [] 0 0] [] [0, 1, 5, 6, 7] (E1 := fun _ => [(0, .val (.slice (some (⟨g, 0, none⟩)) l.length cap)), (1, .val (.func (.func 36) #[] #[.pointer (some (⟨c, 0, none⟩))])), (5, .val (.int .i64 i)), (6, .val (.int .i64 (j + 1))), (7, .val (.pointer (some (⟨nu1 0, 0, none⟩))))]) (h1 := fun _ => [(g, .cells cur 37 (0, 0)), (nu1 0, .cells #[.int .i64 m.src, .int .i64 m.dst, .int .i64 m.shard, .int .i64 m.seq, .int .i64 m.time, .bool m.beat, m.wv, .int .i64 m.place, m.ov] 37 (0, 0))]) (p1 := fun _ => [IntKind.i64.wrap (j + (1 : Int)) = j + (1 : Int)]) (W1 := []) (by kernel_rfl) (fun _ => by kernel_rfl) (fun _ => ⟨wrap_i64 (by omega) (by omega), trivial⟩) (fun _ => ?_)
          refine J_backx (⟨i, j + 1, L, cur⟩ : DS) [0, 1, 5, 6] (fun _ _ _ => ⟨hi0, by simp only; omega, by simp only; omega, hL, by rw [← hL]; exact hrow, by simp only [ej]; exact hsn.symm, by simp only [ej]; exact hdr⟩) (by simp only; omega) (by kernel_rfl) (by simp) (by simp) (by simp) (by simp)
      · have he : j = l.length := by simp at hlt; omega
        have hn : l.length - i.toNat ≠ 0 := by omega
        have hsz := hrow.siz
        have hle := hrow.le
        have hik : (i.toNat : Int) = i := by omega
        refine J_exit rfl ?_
        refine J_seq ?_
        refine JR_begin mixed [(0, true), (1, true), (2, true), (3, false)] [] (by kernel_rfl) (by kernel_rfl) ?_
        refine JR_run (id := 11) (rest := [(3, false)]) [.rd 0 [] 0 0, .rd 1 [] 0 0, .rd 2 [] 0 4] [0, 5, 38] (E1 := fun _ => [(0, .val (.slice (some (⟨g, 0, none⟩)) l.length cap)), (5, .val (.int .i64 i)), (38, .val (.slice (some (⟨g, 0 + i.toNat * 9, none⟩)) (l.length - i.toNat) (cap - i.toNat)))]) (h1 := fun _ => [(g, .cells cur 37 (0, 0))]) (p1 := fun _ => [(0 : Int) ≤ i, i ≤ (↑l.length : Int), i < (↑cap : Int)]) (W1 := []) (fun _ => by kernel_rfl) (fun _ => ⟨hi0, by omega, by omega, trivial⟩) (fun _ => ?_)
        refine JR_clear (size := 9) (bytes := 104) 0 g (0 + i.toNat * 9) (l.length - i.toNat) (cap - i.toNat) 32 37 (.agg #[.int .i64 0, .int .i64 0, .int .i64 0, .int .i64 0, .int .i64 0, .bool false, .slice none 0 0, .int .i64 0, .slice none 0 0]) none (by kernel_rfl) (by kernel_rfl) (by kernel_rfl) (by kernel_rfl) (by omega) rfl rfl (by omega) (by simp [Value.cells, Value.oneCell']) (fun vs1 hvs1 => ?_)
        refine JR_end ?_
        refine J_seq ?_
        refine J_reg mixed [.rd 0 [] 0 0, .rd 1 [] 0 0, .rd 2 [] 0 4, .rd 3 [] 0 0] [] [4] (E1 := fun _ => [(4, .val (.slice (some (⟨g, 0, none⟩)) i.toNat cap))]) (h1 := fun _ => [(g, .cells (seg cur (0 + i.toNat * 9) vs1) 37 (0, 0))]) (p1 := fun _ => [(0 : Int) ≤ i, i ≤ (↑cap : Int)]) (W1 := []) (by kernel_rfl) (fun _ => by kernel_rfl) (fun _ => ⟨hi0, by omega, trivial⟩) (fun _ => ?_)
        refine J_return [[]] (.slice (some (⟨g, 0, none⟩)) i.toNat cap) (by kernel_rfl) (fun a w s => ?_)
        have e0 : L.take i.toNat = l.filter (fun m => decide (k < m.seq)) := by rw [htake, List.take_of_length_le (by omega)]
        have e1 : (L.take i.toNat).length = i.toNat := by rw [List.length_take]; omega
        refine ⟨_, _, rfl, by rw [← e0, e1], s.fr ([g], w0) (by simp), s.at 0 rfl, ?_⟩
        rw [← e0]
        refine (hrow.cutx MV.len (by omega)).tail (by rw [e1]; omega) ?_
        rw [hvs1]
        omega

theorem index44nil {w0 : World} {c : Nat} : Calls Tryd.prog 44 #[.slice none 0 0, clo c] w0 fun e w' => e = .returned (.int .i64 (-1)) ∧ Fr [] w0 w' := by
  refine en44 (args := [.slice none 0 0, clo c]) (h := []) (r := []) (F := [([], w0)]) (by kernel_rfl) (own_nil (by simp)) (by simp [Fr.refl]) (by simp) ?_
  refine J_seq ?_
  refine J_reg mixed [.rd 0 [] 0 0] [] [0, 1, 4] (E1 := fun _ => [(0, .val (.slice none 0 0)), (1, .val (.func (.func 36) #[] #[.pointer (some (⟨c, 0, none⟩))])), (4, .val (.int .i64 0))]) (h1 := fun _ => []) (p1 := fun _ => []) (W1 := []) (by kernel_rfl) (fun _ => by kernel_rfl) (fun _ => trivial) (fun _ => ?_)
  refine J_seq ?_
  refine J_seq ?_
  refine J_reg mixed [.rd 0 [] 0 0, .rd 1 [] 0 0, .rd 2 [] 0 0] [] [0, 1, 4, 7, 8] (E1 := fun _ => [(0, .val (.slice none 0 0)), (1, .val (.func (.func 36) #[] #[.pointer (some (⟨c, 0, none⟩))])), (4, .val (.int .i64 0)), (7, .val (.int .i64 0)), (8, .val (.int .i64 0))]) (h1 := fun _ => []) (p1 := fun _ => []) (W1 := []) (by kernel_rfl) (fun _ => by kernel_rfl) (fun _ => trivial) (fun _ => ?_)
  refine J_block ?_
  refine J_loop1 fun I => ?_
  refine J_seq ?_
  refine J_reg mixed [.rd 0 [] 0 0] [] [0, 1, 4, 7, 8, 9] (E1 := fun _ => [(0, .val (.slice none 0 0)), (1, .val (.func (.func 36) #[] #[.pointer (some (⟨c, 0, none⟩))])), (4, .val (.int .i64 0)), (7, .val (.int .i64 0)), (8, .val (.int .i64 0)), (9, .val (.bool false))]) (h1 := fun _ => []) (p1 := fun _ => []) (W1 := []) (by kernel_rfl) (fun _ => by kernel_rfl) (fun _ => trivial) (fun _ => ?_)
  refine J_seq ?_
  refine J_cond_f (by kernel_rfl) (by kernel_rfl) ?_
  refine J_exit rfl ?_
  refine J_seq ?_
  refine J_reg mixed [.rd 0 [] 0 0] [] [4] (E1 := fun _ => [(4, .val (.int .i64 (-1)))]) (h1 := fun _ => []) (p1 := fun _ => []) (W1 := []) (by kernel_rfl) (fun _ => by kernel_rfl) (fun _ => trivial) (fun _ => ?_)
  refine J_return [[]] (.int .i64 (-1)) (by kernel_rfl) (fun a w s => ?_)
  exact ⟨rfl, s.fr ([], w0) (by simp)⟩
theorem delete35nil {w0 : World} {c : Nat} : Calls Tryd.prog 35 #[.slice none 0 0, clo c] w0 fun e w' => e = .returned (.slice none 0 0) ∧ Fr [] w0 w' := by
  refine en35 (args := [.slice none 0 0, clo c]) (h := []) (r := []) (F := [([], w0)]) (by kernel_rfl) (own_nil (by simp)) (by simp [Fr.refl]) (by simp) ?_
  refine J_seq ?_
  refine J_reg mixed [.rd 0 [] 0 0] [] [0, 1, 4] (E1 := fun _ => [(0, .val (.slice none 0 0)), (1, .val (.func (.func 36) #[] #[.pointer (some (⟨c, 0, none⟩))])), (4, .val (.slice none 0 0))]) (h1 := fun _ => []) (p1 := fun _ => []) (W1 := []) (by kernel_rfl) (fun _ => by kernel_rfl) (fun _ => trivial) (fun _ => ?_)
  refine J_seq ?_
  refine JR_begin mixed [(0, true), (1, true), (2, false), (3, true)] [] (by kernel_rfl) (by kernel_rfl) ?_
  refine JR_run (id := 1) (rest := [(2, false), (3, true)]) [.rd 0 [] 0 0, .rd 1 [] 0 0] [0, 1, 4, 8, 9] (E1 := fun _ => [(0, .val (.slice none 0 0)), (1, .val (.func (.func 36) #[] #[.pointer (some (⟨c, 0, none⟩))])), (4, .val (.slice none 0 0)), (8, .val (.slice none 0 0)), (9, .val (.func (.func 36) #[] #[.pointer (some (⟨c, 0, none⟩))]))]) (h1 := fun _ => []) (p1 := fun _ => []) (W1 := []) (fun _ => by kernel_rfl) (fun _ => trivial) (fun _ => ?_)
  refine JR_call [] [] 44 #[.slice none 0 0, .func (.func 36) #[] #[.pointer (some (⟨c, 0, none⟩))]] (some 10) (by kernel_rfl) (by kernel_rfl) (fun a w s => ?_)
  refine index44nil.mono ?_
  rintro e w2 ⟨rfl, hf2⟩
  refine ⟨_, _, rfl, (did_pure s hf2).1, (did_pure s hf2).2, ?_⟩
  refine JR_run (id := 1) (rest := []) [.rd 3 [] 0 0] [0, 1, 4, 5] (E1 := fun _ => [(0, .val (.slice none 0 0)), (1, .val (.func (.func 36) #[] #[.pointer (some (⟨c, 0, none⟩))])), (4, .val (.slice none 0 0)), (5, .val (.int .i64 (-1)))]) (h1 := fun _ => []) (p1 := fun _ => []) (W1 := []) (fun _ => by kernel_rfl) (fun _ => trivial) (fun _ => ?_)
  refine JR_end ?_
  refine J_seq ?_
  refine J_seq ?_
  refine J_reg mixed [.rd 0 [] 0 0, .rd 1 [] 0 0] [] [0, 1, 4, 5, 12] (E1 := fun _ => [(0, .val (.slice none 0 0)), (1, .val (.func (.func 36) #[] #[.pointer (some (⟨c, 0, none⟩))])), (4, .val (.slice none 0 0)), (5, .val (.int .i64 (-1))), (12, .val (.bool true))]) (h1 := fun _ => []) (p1 := fun _ => []) (W1 := []) (by kernel_rfl) (fun _ => by kernel_rfl) (fun _ => trivial) (fun _ => ?_)
  refine J_cond_t (by kernel_rfl) (by kernel_rfl) ?_
  refine J_seq ?_
  refine J_reg mixed [.rd 0 [] 0 0, .rd 1 [] 0 0] [] [0, 1, 4, 5] (E1 := fun _ => [(0, .val (.slice none 0 0)), (1, .val (.func (.func 36) #[] #[.pointer (some (⟨c, 0, none⟩))])), (4, .val (.slice none 0 0)), (5, .val (.int .i64 (-1)))]) (h1 := fun _ => []) (p1 := fun _ => []) (W1 := []) (by kernel_rfl) (fun _ => by kernel_rfl) (fun _ => trivial) (fun _ => ?_)
  refine J_return [[]] (.slice none 0 0) (by kernel_rfl) (fun a w s => ?_)
  exact ⟨rfl, s.fr ([], w0) (by simp)⟩

theorem acked12nil {w0 : World} {b : Nat} {fm d sh q t k : Int} (hk0 : 0 ≤ k) (hkq : k ≤ q)
    (hblk : w0.heap[b]? = some (.cells #[.int .i64 fm, .int .i64 d, .int .i64 sh, .int .i64 q, .int .i64 t, .slice none 0 0] 86 (0, 0))) :
    Calls Tryd.prog 12 #[.pointer (some ⟨b, 0, none⟩), .int .i64 k] w0 fun e w' => e = .returned .nilIface ∧ Fr [b] w0 w' ∧ w'.heap[b]? = some (.cells #[.int .i64 fm, .int .i64 d, .int .i64 sh, .int .i64 q, .int .i64 t, .slice none 0 0] 86 (0, 0)) := by
  refine en12 (args := [.pointer (some ⟨b, 0, none⟩), .int .i64 k]) (h := [(b, .cells #[.int .i64 fm, .int .i64 d, .int .i64 sh, .int .i64 q, .int .i64 t, .slice none 0 0] 86 (0, 0))]) (r := []) (F := [([b], w0)]) (by kernel_rfl) ⟨by simpa [Hp] using hblk, by simp, by simp [Hp], by simp⟩ (by simp [Fr.refl]) (by simp) ?_
  refine J_seq ?_
  refine J_reg mixed [.wr 0 [] 0, .rd 1 [] 0 0] [] [0, 3, 4] (E1 := fun nu1 => [(0, .val (.pointer (some (⟨b, 0, none⟩)))), (3, .val (.pointer (some (⟨nu1 0, 0, none⟩)))), (4, .val (.nilIface))]) (h1 := fun nu1 => [(b, .cells #[.int .i64 fm, .int .i64 d, .int .i64 sh, .int .i64 q, .int .i64 t, .slice none 0 0] 86 (0, 0)), (nu1 0, .cells #[.int .i64 k] 3 (0, 0))]) (p1 := fun nu1 => []) (W1 := []) (by kernel_rfl) (fun _ => by kernel_rfl) (fun _ => trivial) (fun nu1 => ?_)
  refine J_seq ?_
  refine J_seq ?_
  refine J_reg mixed [.rd 0 [.o 1 none] 0 0, .rd 1 [] 0 0, .rd 2 [] 0 0, .rd 3 [.o 1 none] 2 0, .rd 4 [] 2 0, .rd 5 [] 2 0, .rd 6 [] 2 0, .rd 7 [.o 0 none] 2 0, .rd 8 [] 2 0, .rd 9 [] 0 3] [] [0, 3, 4, 14] (E1 := fun _ => [(0, .val (.pointer (some (⟨b, 0, none⟩)))), (3, .val (.pointer (some (⟨nu1 0, 0, none⟩)))), (4, .val (.nilIface)), (14, .val (.bool (decide (k < 0) || decide (k > q))))]) (h1 := fun _ => [(b, .cells #[.int .i64 fm, .int .i64 d, .int .i64 sh, .int .i64 q, .int .i64 t, .slice none 0 0] 86 (0, 0)), (nu1 0, .cells #[.int .i64 k] 3 (0, 0))]) (p1 := fun _ => []) (W1 := []) (by kernel_rfl) (fun _ => by kernel_rfl) (fun _ => trivial) (fun _ => ?_)
  refine J_condF (decide (k < 0) || decide (k > q)) (by kernel_rfl) (by kernel_rfl) (by simp; omega) ?_
  refine J_skip ?_
  refine J_seq ?_
  refine JR_begin mixed [(0, true), (1, true), (2, true), (3, true), (4, true), (5, true), (6, false), (7, true), (8, true), (9, false)] [] (by kernel_rfl) (by kernel_rfl) ?_
  refine JR_run (id := 3) (rest := [(6, false), (7, true), (8, true), (9, false)]) [.rd 0 [] 0 0, .rd 1 [] 0 0, .rd 2 [] 0 0, .rd 3 [] 0 0, .rd 4 [.o 0 none] 0 0, .rd 5 [] 0 0] [4, 16, 20, 21] (E1 := fun _ => [(4, .val (.nilIface)), (16, .val (.pointer (some (⟨b, 0, none⟩)))), (20, .val (.slice none 0 0)), (21, .val (.func (.func 36) #[] #[.pointer (some (⟨nu1 0, 0, none⟩))]))]) (h1 := fun _ => [(b, .cells #[.int .i64 fm, .int .i64 d, .int .i64 sh, .int .i64 q, .int .i64 t, .slice none 0 0] 86 (0, 0)), (nu1 0, .cells #[.int .i64 k] 3 (0, 0))]) (p1 := fun _ => []) (W1 := []) (fun _ => by kernel_rfl) (fun _ => trivial) (fun _ => ?_)
  refine JR_call [] [] 35 #[.slice none 0 0, .func (.func 36) #[] #[.pointer (some (⟨nu1 0, 0, none⟩))]] (some 22) (by kernel_rfl) (by kernel_rfl) (fun a w s => ?_)
  refine delete35nil.mono ?_
  rintro e w2 ⟨rfl, hf2⟩
  refine ⟨_, _, rfl, (did_pure s hf2).1, (did_pure s hf2).2, ?_⟩
  refine JR_run (id := 3) (rest := []) [.rd 7 [] 0 0, .rd 8 [] 0 0, .wr 9 [.o 0 none] 0] [4] (E1 := fun _ => [(4, .val (.nilIface))]) (h1 := fun _ => [(b, .cells #[.int .i64 fm, .int .i64 d, .int .i64 sh, .int .i64 q, .int .i64 t, .slice none 0 0] 86 (0, 0)), (nu1 0, .cells #[.int .i64 k] 3 (0, 0))]) (p1 := fun _ => []) (W1 := []) (fun _ => by kernel_rfl) (fun _ => trivial) (fun _ => ?_)
  refine JR_end ?_
  refine J_seq ?_
  refine J_reg mixed [.rd 0 [] 0 0] [] [4] (E1 := fun _ => [(4, .val (.nilIface))]) (h1 := fun _ => [(b, .cells #[.int .i64 fm, .int .i64 d, .int .i64 sh, .int .i64 q, .int .i64 t, .slice none 0 0] 86 (0, 0)), (nu1 0, .cells #[.int .i64 k] 3 (0, 0))]) (p1 := fun _ => []) (W1 := []) (by kernel_rfl) (fun _ => by kernel_rfl) (fun _ => trivial) (fun _ => ?_)
  refine J_return [[]] (.nilIface) (by kernel_rfl) (fun a w s => ?_)
  exact ⟨rfl, s.fr ([b], w0) (by simp), s.at 0 rfl⟩

theorem acked12 {w0 : World} {b g cap : Nat} {cur : Array Value} {fm d sh q t k : Int} {l : List MV} (hk0 : 0 ≤ k) (hkq : k ≤ q) (hbg : b ≠ g) (hl : l.length < 100000) (h1 : ∀ m ∈ l, m.one)
    (hblk : w0.heap[b]? = some (.cells #[.int .i64 fm, .int .i64 d, .int .i64 sh, .int .i64 q, .int .i64 t, .slice (some ⟨g, 0, none⟩) l.length cap] 86 (0, 0))) (hg : w0.heap[g]? = some (.cells cur 37 (0, 0))) (hrow : Row cur cap l.length 9 (flat MV.cells l)) :
    Calls Tryd.prog 12 #[.pointer (some ⟨b, 0, none⟩), .int .i64 k] w0 fun e w' => ∃ l2 cur2, l2 = l.filter (fun m => decide (k < m.seq)) ∧ e = .returned .nilIface ∧ Fr [b, g] w0 w' ∧ w'.heap[b]? = some (.cells #[.int .i64 fm, .int .i64 d, .int .i64 sh, .int .i64 q, .int .i64 t, .slice (some ⟨g, 0, none⟩) l2.length cap] 86 (0, 0)) ∧ w'.heap[g]? = some (.cells cur2 37 (0, 0)) ∧ Row cur2 cap l2.length 9 (flat MV.cells l2) := by
  refine en12 (args := [.pointer (some ⟨b, 0, none⟩), .int .i64 k]) (h := [(b, .cells #[.int .i64 fm, .int .i64 d, .int .i64 sh, .int .i64 q, .int .i64 t, .slice (some ⟨g, 0, none⟩) l.length cap] 86 (0, 0)), (g, .cells cur 37 (0, 0))]) (r := []) (F := [([b, g], w0)]) (by kernel_rfl) ⟨by simp [Hp, hblk, hg], by simp [hbg], by simp [Hp], by simp⟩ (by simp [Fr.refl]) (by simp) ?_
  refine J_seq ?_
  refine J_reg mixed [.wr 0 [] 0, .rd 1 [] 0 0] [] [0, 3, 4] (E1 := fun nu1 => [(0, .val (.pointer (some (⟨b, 0, none⟩)))), (3, .val (.pointer (some (⟨nu1 0, 0, none⟩)))), (4, .val (.nilIface))]) (h1 := fun nu1 => [(b, .cells #[.int .i64 fm, .int .i64 d, .int .i64 sh, .int .i64 q, .int .i64 t, .slice (some (⟨g, 0, none⟩)) l.length cap] 86 (0, 0)), (g, .cells cur 37 (0, 0)), (nu1 0, .cells #[.int .i64 k] 3 (0, 0))]) (p1 := fun nu1 => []) (W1 := []) (by kernel_rfl) (fun _ => by kernel_rfl) (fun _ => trivial) (fun nu1 => ?_)
  refine J_seq ?_
  refine J_seq ?_
  refine J_reg mixed [.rd 0 [.o 2 none] 0 0, .rd 1 [] 0 0, .rd 2 [] 0 0, .rd 3 [.o 2 none] 2 0, .rd 4 [] 2 0, .rd 5 [] 2 0, .rd 6 [] 2 0, .rd 7 [.o 0 none] 2 0, .rd 8 [] 2 0, .rd 9 [] 0 3] [] [0, 3, 4, 14] (E1 := fun _ => [(0, .val (.pointer (some (⟨b, 0, none⟩)))), (3, .val (.pointer (some (⟨nu1 0, 0, none⟩)))), (4, .val (.nilIface)), (14, .val (.bool (decide (k < 0) || decide (k > q))))]) (h1 := fun _ => [(b, .cells #[.int .i64 fm, .int .i64 d, .int .i64 sh, .int .i64 q, .int .i64 t, .slice (some (⟨g, 0, none⟩)) l.length cap] 86 (0, 0)), (g, .cells cur 37 (0, 0)), (nu1 0, .cells #[.int .i64 k] 3 (0, 0))]) (p1 := fun _ => []) (W1 := []) (by kernel_rfl) (fun _ => by kernel_rfl) (fun _ => trivial) (fun _ => ?_)
  refine J_condF (decide (k < 0) || decide (k > q)) (by kernel_rfl) (by kernel_rfl) (by simp; omega) ?_
  refine J_skip ?_
  refine J_seq ?_
  refine JR_begin mixed [(0, true), (1, true), (2, true), (3, true), (4, true), (5, true), (6, false), (7, true), (8, true), (9, false)] [] (by kernel_rfl) (by kernel_rfl) ?_
  refine JR_run (id := 3) (rest := [(6, false), (7, true), (8, true), (9, false)]) [.rd 0 [] 0 0, .rd 1 [] 0 0, .rd 2 [] 0 0, .rd 3 [] 0 0, .rd 4 [.o 0 none] 0 0, .rd 5 [] 0 0] [4, 16, 20, 21] (E1 := fun _ => [(4, .val (.nilIface)), (16, .val (.pointer (some (⟨b, 0, none⟩)))), (20, .val (.slice (some (⟨g, 0, none⟩)) l.length cap)), (21, .val (.func (.func 36) #[] #[.pointer (some (⟨nu1 0, 0, none⟩))]))]) (h1 := fun _ => [(b, .cells #[.int .i64 fm, .int .i64 d, .int .i64 sh, .int .i64 q, .int .i64 t, .slice (some (⟨g, 0, none⟩)) l.length cap] 86 (0, 0)), (g, .cells cur 37 (0, 0)), (nu1 0, .cells #[.int .i64 k] 3 (0, 0))]) (p1 := fun _ => []) (W1 := []) (fun _ => by kernel_rfl) (fun _ => trivial) (fun _ => ?_)
  refine JR_call [] [1] 35 #[.slice (some (⟨g, 0, none⟩)) l.length cap, .func (.func 36) #[] #[.pointer (some (⟨nu1 0, 0, none⟩))]] (some 22) (by kernel_rfl) (by kernel_rfl) (fun a w s => ?_)
  have hgc : g ≠ nu1 0 := by have := s.own.nodup; simp at this; omega
  refine (delete35 hl h1 hgc (s.at 1 rfl) (s.at 2 rfl) hrow).mono ?_
  rintro e w2 ⟨l2, cur2, hl2, rfl, hf2, hg2, hrow2⟩
  have D := did_turn1 s hf2 1 rfl hg2 [] (by simp) (by simp)
  refine ⟨_, _, rfl, D.1, D.2, ?_⟩
  refine JR_run (id := 3) (rest := []) [.rd 7 [] 0 0, .rd 8 [] 0 0, .wr 9 [.o 0 none] 0] [4] (E1 := fun _ => [(4, .val (.nilIface))]) (h1 := fun _ => [(b, .cells #[.int .i64 fm, .int .i64 d, .int .i64 sh, .int .i64 q, .int .i64 t, .slice (some (⟨g, 0, none⟩)) l2.length cap] 86 (0, 0)), (g, .cells cur2 37 (0, 0)), (nu1 0, .cells #[.int .i64 k] 3 (0, 0))]) (p1 := fun _ => []) (W1 := []) (fun _ => by kernel_rfl) (fun _ => trivial) (fun _ => ?_)
  refine JR_end ?_
  refine J_seq ?_
  refine J_reg mixed [.rd 0 [] 0 0] [] [4] (E1 := fun _ => [(4, .val (.nilIface))]) (h1 := fun _ => [(b, .cells #[.int .i64 fm, .int .i64 d, .int .i64 sh, .int .i64 q, .int .i64 t, .slice (some (⟨g, 0, none⟩)) l2.length cap] 86 (0, 0)), (g, .cells cur2 37 (0, 0)), (nu1 0, .cells #[.int .i64 k] 3 (0, 0))]) (p1 := fun _ => []) (W1 := []) (by kernel_rfl) (fun _ => by kernel_rfl) (fun _ => trivial) (fun _ => ?_)
  refine J_return [[]] (.nilIface) (by kernel_rfl) (fun a w s => ?_)
  exact ⟨l2, cur2, hl2, rfl, s.fr ([b, g], w0) (by simp), s.at 0 rfl, s.at 1 rfl, hrow2⟩
end Go.Proofs.YtgelnbgjabpdbaaDoor
