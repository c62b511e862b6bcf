/- Streams of beats: who sends, who receives. -/
import Derived.Test.YtgelnbgjabpdbaaDoorBeat
namespace Go.Proofs.YtgelnbgjabpdbaaDoor
open Go Go.Sx

theorem newWay_ok {w0 : World} (x y z : Int) (ha : 0 ≤ x) (ha' : x < 6) (hb : 0 ≤ y) (hb' : y < 6) (hc : 0 ≤ z) (hc' : z < 6) (hab : (x == y) = false) :
    Calls Tryd.prog 32 #[.int .i64 x, .int .i64 y, .int .i64 z] w0 fun e w' => e = .returned (.tuple #[.agg #[.int .i64 x, .int .i64 y, .int .i64 z], .nilIface]) ∧ Fr [] w0 w' := by
  refine en32 (args := [.int .i64 x, .int .i64 y, .int .i64 z]) (h := []) (r := []) (F := [([], w0)]) (by kernel_rfl) (own_nil (by simp)) (by simp [Fr.refl]) (by simp) ?_
  refine J_seq ?_
  refine J_reg mixed [.wr 0 [] 0, .rd 1 [] 0 0] [] [0, 1, 2, 6, 7] (E1 := fun nu1 => [(0, .val (.int .i64 x)), (1, .val (.int .i64 y)), (2, .val (.int .i64 z)), (6, .val (.pointer (some (⟨nu1 0, 0, none⟩)))), (7, .val (.nilIface))]) (h1 := fun nu1 => [(nu1 0, .cells #[.int .i64 0, .int .i64 0, .int .i64 0] 82 (0, 0))]) (p1 := fun nu1 => []) (W1 := []) (by kernel_rfl) (fun _ => by kernel_rfl) (fun _ => trivial) (fun nu1 => ?_)
  refine J_seq ?_
  refine J_seq ?_
  refine J_reg mixed [.rd 0 [] 0 0, .rd 1 [] 0 0, .rd 2 [] 0 0, .rd 3 [] 2 0, .rd 4 [] 2 0, .rd 5 [] 0 3, .rd 6 [] 0 0, .rd 7 [] 2 0, .rd 8 [] 2 0, .rd 9 [] 0 3, .rd 10 [] 0 0, .rd 11 [] 2 0, .rd 12 [] 2 0, .rd 13 [] 0 3, .rd 14 [] 0 0, .rd 15 [] 2 0, .rd 16 [] 2 0, .rd 17 [] 0 3, .rd 18 [] 0 0, .rd 19 [] 2 0, .rd 20 [] 2 0, .rd 21 [] 0 3] [] [0, 1, 2, 6, 7, 29] (E1 := fun _ => [(0, .val (.int .i64 x)), (1, .val (.int .i64 y)), (2, .val (.int .i64 z)), (6, .val (.pointer (some (⟨nu1 0, 0, none⟩)))), (7, .val (.nilIface)), (29, .val (.bool (decide (x < 0) || decide (x ≥ 6) || decide (y < 0) || decide (y ≥ 6) || decide (z < 0) || decide (z ≥ 6))))]) (h1 := fun _ => [(nu1 0, .cells #[.int .i64 0, .int .i64 0, .int .i64 0] 82 (0, 0))]) (p1 := fun _ => []) (W1 := []) (by kernel_rfl) (fun _ => by kernel_rfl) (fun _ => trivial) (fun _ => ?_)
  refine J_condF (decide (x < 0) || decide (x ≥ 6) || decide (y < 0) || decide (y ≥ 6) || decide (z < 0) || decide (z ≥ 6)) (by kernel_rfl) (by kernel_rfl) (by simp; omega) ?_
  refine J_skip ?_
  refine J_seq ?_
  refine J_seq ?_
  refine J_reg mixed [.rd 0 [] 0 0, .rd 1 [] 0 0, .rd 2 [] 0 0] [] [0, 1, 2, 6, 7, 34] (E1 := fun _ => [(0, .val (.int .i64 x)), (1, .val (.int .i64 y)), (2, .val (.int .i64 z)), (6, .val (.pointer (some (⟨nu1 0, 0, none⟩)))), (7, .val (.nilIface)), (34, .val (.bool (x == y)))]) (h1 := fun _ => [(nu1 0, .cells #[.int .i64 0, .int .i64 0, .int .i64 0] 82 (0, 0))]) (p1 := fun _ => []) (W1 := []) (by kernel_rfl) (fun _ => by kernel_rfl) (fun _ => trivial) (fun _ => ?_)
  refine J_condF (x == y) (by kernel_rfl) (by kernel_rfl) (by simp [*]; done) ?_
  refine J_skip ?_
  refine J_seq ?_
  refine J_reg mixed [.rd 0 [] 0 0, .rd 1 [] 0 0, .rd 2 [] 0 0, .rd 3 [] 0 0, .wr 4 [.o 0 none, .o 0 none, .o 0 none] 0, .rd 5 [] 0 0] [(4, [0])] [6, 7] (E1 := fun _ => [(6, .val (.pointer (some (⟨nu1 0, 0, none⟩)))), (7, .val (.nilIface))]) (h1 := fun _ => [(nu1 0, .cells #[.int .i64 x, .int .i64 y, .int .i64 z] 82 (0, 0))]) (p1 := fun _ => []) (W1 := []) (by kernel_rfl) (fun _ => by kernel_rfl) (fun _ => trivial) (fun _ => ?_)
  refine J_return [[.o 0 none, .o 0 none, .o 0 none], []] (.tuple #[.agg #[.int .i64 x, .int .i64 y, .int .i64 z], .nilIface]) (by kernel_rfl) (fun a w s => ?_)
  exact ⟨rfl, s.fr _ (List.mem_cons_self ..)⟩

theorem newSender_ok {w0 : World} (x y z : Int) (ha : 0 ≤ x) (ha' : x < 6) (hb : 0 ≤ y) (hb' : y < 6) (hc : 0 ≤ z) (hc' : z < 6) (hab : (x == y) = false) :
    Calls Tryd.prog 8 #[.int .i64 x, .int .i64 y, .int .i64 z] w0 fun e w' => ∃ p, e = .returned (.tuple #[.pointer (some ⟨p, 0, none⟩), .nilIface]) ∧ Fr [] w0 w' ∧ w0.heap.size ≤ p ∧ w'.heap[p]? = some (.cells (sc x y z 0 0 (.slice none 0 0)) 86 (0, 0)) := by
  refine en8 (args := [.int .i64 x, .int .i64 y, .int .i64 z]) (h := []) (r := []) (F := [([], w0)]) (by kernel_rfl) (own_nil (by simp)) (by simp [Fr.refl]) (by simp) ?_
  refine J_seq ?_
  refine J_reg mixed [.rd 0 [] 0 0, .rd 1 [] 0 0] [] [0, 1, 2, 6, 7] (E1 := fun _ => [(0, .val (.int .i64 x)), (1, .val (.int .i64 y)), (2, .val (.int .i64 z)), (6, .val (.pointer none)), (7, .val (.nilIface))]) (h1 := fun _ => []) (p1 := fun _ => []) (W1 := []) (by kernel_rfl) (fun _ => by kernel_rfl) (fun _ => trivial) (fun _ => ?_)
  refine J_seq ?_
  refine JR_begin mixed [(0, true), (1, true), (2, true), (3, false), (4, true), (5, true), (6, true), (7, false), (8, false), (9, true)] [] (by kernel_rfl) (by kernel_rfl) ?_
  refine JR_run (id := 1) (rest := [(3, false), (4, true), (5, true), (6, true), (7, false), (8, false), (9, true)]) [.rd 0 [] 0 0, .rd 1 [] 0 0, .rd 2 [] 0 0] [6, 7, 11, 12, 13] (E1 := fun _ => [(6, .val (.pointer none)), (7, .val (.nilIface)), (11, .val (.int .i64 x)), (12, .val (.int .i64 y)), (13, .val (.int .i64 z))]) (h1 := fun _ => []) (p1 := fun _ => []) (W1 := []) (fun _ => by kernel_rfl) (fun _ => trivial) (fun _ => ?_)
  refine JR_call [] [] 32 #[.int .i64 x, .int .i64 y, .int .i64 z] (some 14) (by kernel_rfl) (by kernel_rfl) (fun a w s => ?_)
  refine (newWay_ok x y z ha ha' hb hb' hc hc' hab).mono ?_
  rintro e w1 ⟨rfl, hf⟩
  refine ⟨_, _, rfl, (did_pure s hf).1, (did_pure s hf).2, ?_⟩
  refine JR_run (id := 1) (rest := []) [.rd 4 [] 0 0, .rd 5 [] 0 0, .rd 6 [] 0 0, .wr 7 [] 0, .wr 8 [.o 0 none, .o 0 none, .o 0 none] 0, .rd 9 [] 0 0] [6, 7, 8, 9] (E1 := fun nu1 => [(6, .val (.pointer none)), (7, .val (.nilIface)), (8, .val (.pointer (some (⟨nu1 0, 0, none⟩)))), (9, .val (.nilIface))]) (h1 := fun nu1 => [(nu1 0, .cells #[.int .i64 x, .int .i64 y, .int .i64 z] 82 (0, 0))]) (p1 := fun nu1 => []) (W1 := []) (fun _ => by kernel_rfl) (fun _ => trivial) (fun nu1 => ?_)
  refine JR_end ?_
  refine J_seq ?_
  refine J_seq ?_
  refine J_reg mixed [.rd 0 [] 0 0, .rd 1 [] 0 0] [] [6, 7, 8, 9, 18] (E1 := fun _ => [(6, .val (.pointer none)), (7, .val (.nilIface)), (8, .val (.pointer (some (⟨nu1 0, 0, none⟩)))), (9, .val (.nilIface)), (18, .val (.bool false))]) (h1 := fun _ => [(nu1 0, .cells #[.int .i64 x, .int .i64 y, .int .i64 z] 82 (0, 0))]) (p1 := fun _ => []) (W1 := []) (by kernel_rfl) (fun _ => by kernel_rfl) (fun _ => trivial) (fun _ => ?_)
  refine J_cond_f (by kernel_rfl) (by kernel_rfl) ?_
  refine J_skip ?_
  refine J_seq ?_
  refine J_reg mixed [.rd 0 [.o 0 none, .o 0 none, .o 0 none] 0 0, .rd 1 [] 0 0, .wr 2 [] 0, .rd 3 [] 0 0, .rd 4 [] 0 0] [] [6, 7] (E1 := fun nu2 => [(6, .val (.pointer (some (⟨nu2 0, 0, none⟩)))), (7, .val (.nilIface))]) (h1 := fun nu2 => [(nu1 0, .cells #[.int .i64 x, .int .i64 y, .int .i64 z] 82 (0, 0)), (nu2 0, .cells #[.int .i64 x, .int .i64 y, .int .i64 z, .int .i64 0, .int .i64 0, .slice none 0 0] 86 (0, 0))]) (p1 := fun nu2 => []) (W1 := []) (by kernel_rfl) (fun _ => by kernel_rfl) (fun _ => trivial) (fun nu2 => ?_)
  refine J_return [[], []] (.tuple #[.pointer (some (⟨nu2 0, 0, none⟩)), .nilIface]) (by kernel_rfl) (fun a w s => ?_)
  exact ⟨nu2 0, rfl, s.fr ([], w0) (by simp), s.fresh 1 1 rfl rfl (by simp), s.at 1 rfl⟩

theorem newReceiver_ok {w0 : World} (x y z : Int) (ha : 0 ≤ x) (ha' : x < 6) (hb : 0 ≤ y) (hb' : y < 6) (hc : 0 ≤ z) (hc' : z < 6) (hab : (x == y) = false) :
    Calls Tryd.prog 9 #[.int .i64 x, .int .i64 y, .int .i64 z] w0 fun e w' => ∃ p q, e = .returned (.tuple #[.pointer (some ⟨p, 0, none⟩), .nilIface]) ∧ Fr [] w0 w' ∧ w0.heap.size ≤ p ∧ w0.heap.size ≤ q ∧ p ≠ q ∧ w'.heap[p]? = some (.cells (sc x y z 0 0 (.map (some q))) 89 (0, 0)) ∧ w'.heap[q]? = some (.map #[] 0) := by
  refine en9 (args := [.int .i64 x, .int .i64 y, .int .i64 z]) (h := []) (r := []) (F := [([], w0)]) (by kernel_rfl) (own_nil (by simp)) (by simp [Fr.refl]) (by simp) ?_
  refine J_seq ?_
  refine J_reg mixed [.rd 0 [] 0 0, .rd 1 [] 0 0] [] [0, 1, 2, 6, 7] (E1 := fun _ => [(0, .val (.int .i64 x)), (1, .val (.int .i64 y)), (2, .val (.int .i64 z)), (6, .val (.pointer none)), (7, .val (.nilIface))]) (h1 := fun _ => []) (p1 := fun _ => []) (W1 := []) (by kernel_rfl) (fun _ => by kernel_rfl) (fun _ => trivial) (fun _ => ?_)
  refine J_seq ?_
  refine JR_begin mixed [(0, true), (1, true), (2, true), (3, false), (4, true), (5, true), (6, true), (7, false), (8, false), (9, true)] [] (by kernel_rfl) (by kernel_rfl) ?_
  refine JR_run (id := 1) (rest := [(3, false), (4, true), (5, true), (6, true), (7, false), (8, false), (9, true)]) [.rd 0 [] 0 0, .rd 1 [] 0 0, .rd 2 [] 0 0] [6, 7, 11, 12, 13] (E1 := fun _ => [(6, .val (.pointer none)), (7, .val (.nilIface)), (11, .val (.int .i64 x)), (12, .val (.int .i64 y)), (13, .val (.int .i64 z))]) (h1 := fun _ => []) (p1 := fun _ => []) (W1 := []) (fun _ => by kernel_rfl) (fun _ => trivial) (fun _ => ?_)
  refine JR_call [] [] 32 #[.int .i64 x, .int .i64 y, .int .i64 z] (some 14) (by kernel_rfl) (by kernel_rfl) (fun a w s => ?_)
  refine (newWay_ok x y z ha ha' hb hb' hc hc' hab).mono ?_
  rintro e w1 ⟨rfl, hf⟩
  refine ⟨_, _, rfl, (did_pure s hf).1, (did_pure s hf).2, ?_⟩
  refine JR_run (id := 1) (rest := []) [.rd 4 [] 0 0, .rd 5 [] 0 0, .rd 6 [] 0 0, .wr 7 [] 0, .wr 8 [.o 0 none, .o 0 none, .o 0 none] 0, .rd 9 [] 0 0] [6, 7, 8, 9] (E1 := fun nu1 => [(6, .val (.pointer none)), (7, .val (.nilIface)), (8, .val (.pointer (some (⟨nu1 0, 0, none⟩)))), (9, .val (.nilIface))]) (h1 := fun nu1 => [(nu1 0, .cells #[.int .i64 x, .int .i64 y, .int .i64 z] 82 (0, 0))]) (p1 := fun nu1 => []) (W1 := []) (fun _ => by kernel_rfl) (fun _ => trivial) (fun nu1 => ?_)
  refine JR_end ?_
  refine J_seq ?_
  refine J_seq ?_
  refine J_reg mixed [.rd 0 [] 0 0, .rd 1 [] 0 0] [] [6, 7, 8, 9, 18] (E1 := fun _ => [(6, .val (.pointer none)), (7, .val (.nilIface)), (8, .val (.pointer (some (⟨nu1 0, 0, none⟩)))), (9, .val (.nilIface)), (18, .val (.bool false))]) (h1 := fun _ => [(nu1 0, .cells #[.int .i64 x, .int .i64 y, .int .i64 z] 82 (0, 0))]) (p1 := fun _ => []) (W1 := []) (by kernel_rfl) (fun _ => by kernel_rfl) (fun _ => trivial) (fun _ => ?_)
  refine J_cond_f (by kernel_rfl) (by kernel_rfl) ?_
  refine J_skip ?_
  refine J_seq ?_
  refine J_reg mixed [.rd 0 [.o 0 none, .o 0 none, .o 0 none] 0 0, .wr 1 [] 0, .rd 2 [] 0 0, .wr 3 [] 0, .rd 4 [] 0 0, .rd 5 [] 0 0] [] [6, 7] (E1 := fun nu2 => [(6, .val (.pointer (some (⟨nu2 1, 0, none⟩)))), (7, .val (.nilIface))]) (h1 := fun nu2 => [(nu1 0, .cells #[.int .i64 x, .int .i64 y, .int .i64 z] 82 (0, 0)), (nu2 0, Obj.map #[] 0), (nu2 1, .cells #[.int .i64 x, .int .i64 y, .int .i64 z, .int .i64 0, .int .i64 0, .map (some (nu2 0))] 89 (0, 0))]) (p1 := fun nu2 => []) (W1 := []) (by kernel_rfl) (fun _ => by kernel_rfl) (fun _ => trivial) (fun nu2 => ?_)
  refine J_return [[], []] (.tuple #[.pointer (some (⟨nu2 1, 0, none⟩)), .nilIface]) (by kernel_rfl) (fun a w s => ?_)
  exact ⟨nu2 1, nu2 0, rfl, s.fr ([], w0) (by simp), s.fresh 1 2 rfl rfl (by simp), s.fresh 1 1 rfl rfl (by simp), by have := s.own.nodup; simp at this; omega, s.at 2 rfl, s.at 1 rfl⟩

theorem beat10nil {w0 : World} {b : Nat} {fm d sh q t q0 t0 : Int} (hq : q = q0 + 1) (hb : 0 ≤ q0) (hb2 : q0 < 1000000) (ht0 : 0 ≤ t) (ht : t ≤ 1000) (htt : t0 ≤ t) (hblk : w0.heap[b]? = some (.cells (sc fm d sh q0 t0 (.slice none 0 0)) 86 (0, 0))) :
    Calls Tryd.prog 10 #[.pointer (some ⟨b, 0, none⟩), .int .i64 t] w0 fun e w' => e = .returned (.tuple #[.agg (bc fm d sh q t), .nilIface]) ∧ Fr [b] w0 w' ∧
      ∃ g cap cur, w0.heap.size ≤ g ∧ w'.heap[b]? = some (.cells (sc fm d sh q t (.slice (some ⟨g, 0, none⟩) 1 cap)) 86 (0, 0)) ∧ w'.heap[g]? = some (.cells cur 37 (0, 0)) ∧ Row cur cap 1 9 (bcs fm d sh [(q, t)]) := by
  refine en10 (args := [.pointer (some ⟨b, 0, none⟩), .int .i64 t]) (h := [(b, .cells (sc fm d sh q0 t0 (.slice none 0 0)) 86 (0, 0))]) (r := []) (F := [([b], w0)]) (by kernel_rfl) ⟨by simpa [Hp] using hblk, by simp, by simp [Hp], by simp⟩ (by simp [Fr.refl]) (by simp) ?_
  refine J_seq ?_
  refine J_reg mixed [.wr 0 [] 0, .rd 1 [] 0 0] [] [0, 1, 4, 5] (E1 := fun nu1 => [(0, .val (.pointer (some (⟨b, 0, none⟩)))), (1, .val (.int .i64 t)), (4, .val (.pointer (some (⟨nu1 0, 0, none⟩)))), (5, .val (.nilIface))]) (h1 := fun nu1 => [(b, .cells #[.int .i64 fm, .int .i64 d, .int .i64 sh, .int .i64 q0, .int .i64 t0, .slice none 0 0] 86 (0, 0)), (nu1 0, .cells #[.int .i64 0, .int .i64 0, .int .i64 0, .int .i64 0, .int .i64 0, .bool false, .slice none 0 0, .int .i64 0, .slice none 0 0] 37 (0, 0))]) (p1 := fun nu1 => []) (W1 := []) (by kernel_rfl) (fun _ => by kernel_rfl) (fun _ => trivial) (fun nu1 => ?_)
  refine J_seq ?_
  refine J_block ?_
  refine J_seq ?_
  refine J_reg mixed [.rd 0 [] 0 0, .rd 1 [] 0 0, .rd 2 [] 0 0, .rd 3 [] 2 0, .rd 4 [] 2 0, .rd 5 [] 0 3, .rd 6 [] 0 0] [] [0, 1, 4, 5, 6] (E1 := fun _ => [(0, .val (.pointer (some (⟨b, 0, none⟩)))), (1, .val (.int .i64 t)), (4, .val (.pointer (some (⟨nu1 0, 0, none⟩)))), (5, .val (.nilIface)), (6, .val (.bool (decide (t < 0) || decide (t > 1099511627776))))]) (h1 := fun _ => [(b, .cells #[.int .i64 fm, .int .i64 d, .int .i64 sh, .int .i64 q0, .int .i64 t0, .slice none 0 0] 86 (0, 0)), (nu1 0, .cells #[.int .i64 0, .int .i64 0, .int .i64 0, .int .i64 0, .int .i64 0, .bool false, .slice none 0 0, .int .i64 0, .slice none 0 0] 37 (0, 0))]) (p1 := fun _ => []) (W1 := []) (by kernel_rfl) (fun _ => by kernel_rfl) (fun _ => trivial) (fun _ => ?_)
  refine J_condF (decide (t < 0) || decide (t > 1099511627776)) (by kernel_rfl) (by kernel_rfl) (by simp; omega) ?_
  refine J_seq ?_
  refine J_reg mixed [.rd 0 [] 0 0, .rd 1 [] 0 0, .rd 2 [] 0 0, .rd 3 [] 0 0, .rd 4 [.o 0 none] 0 0, .rd 5 [] 0 0, .rd 6 [] 0 0] [] [0, 1, 4, 5, 15] (E1 := fun _ => [(0, .val (.pointer (some (⟨b, 0, none⟩)))), (1, .val (.int .i64 t)), (4, .val (.pointer (some (⟨nu1 0, 0, none⟩)))), (5, .val (.nilIface)), (15, .val (.bool (decide (t < t0))))]) (h1 := fun _ => [(b, .cells #[.int .i64 fm, .int .i64 d, .int .i64 sh, .int .i64 q0, .int .i64 t0, .slice none 0 0] 86 (0, 0)), (nu1 0, .cells #[.int .i64 0, .int .i64 0, .int .i64 0, .int .i64 0, .int .i64 0, .bool false, .slice none 0 0, .int .i64 0, .slice none 0 0] 37 (0, 0))]) (p1 := fun _ => []) (W1 := []) (by kernel_rfl) (fun _ => by kernel_rfl) (fun _ => trivial) (fun _ => ?_)
  refine J_condF (decide (t < t0)) (by kernel_rfl) (by kernel_rfl) (by simpa using ‹_›) ?_
  refine J_skip ?_
  refine J_eb ?_
  refine J_seq ?_
  refine JR_begin mixed [(0, true), (1, true), (2, true), (3, false), (4, false), (5, true)] [] (by kernel_rfl) (by kernel_rfl) ?_
  refine JR_run (id := 5) (rest := [(3, false), (4, false), (5, true)]) [.rd 0 [] 0 0, .rd 1 [] 0 0, .rd 2 [] 0 0] [4, 5, 24, 25, 26] (E1 := fun _ => [(4, .val (.pointer (some (⟨nu1 0, 0, none⟩)))), (5, .val (.nilIface)), (24, .val (.pointer (some (⟨b, 0, none⟩)))), (25, .val (.int .i64 t)), (26, .val (.agg #[.slice none 0 0, .int .i64 0, .slice none 0 0]))]) (h1 := fun _ => [(b, .cells #[.int .i64 fm, .int .i64 d, .int .i64 sh, .int .i64 q0, .int .i64 t0, .slice none 0 0] 86 (0, 0)), (nu1 0, .cells #[.int .i64 0, .int .i64 0, .int .i64 0, .int .i64 0, .int .i64 0, .bool false, .slice none 0 0, .int .i64 0, .slice none 0 0] 37 (0, 0))]) (p1 := fun _ => []) (W1 := []) (fun _ => by kernel_rfl) (fun _ => trivial) (fun _ => ?_)
  refine JR_call [] [0] 33 #[.pointer (some (⟨b, 0, none⟩)), .int .i64 t, .agg #[.slice none 0 0, .int .i64 0, .slice none 0 0], .bool true] (some 27) (by kernel_rfl) (by kernel_rfl) (fun a w s => ?_)
  refine (next33nil hq hb hb2 (s.at 0 rfl)).mono ?_
  rintro e w1 ⟨rfl, hf, g, cap, cur, hg0, hb1, hg1, hrow⟩
  have D := did_turn1 s hf 0 rfl hb1 [(g, .cells cur 37 (0, 0))] (by simp [hg0, hg1]) (by simp)
  refine ⟨_, _, rfl, D.1, D.2, ?_⟩
  refine JR_run (id := 5) (rest := []) [.wr 4 [.o 1 none, .o 1 none, .o 1 none, .o 1 none, .o 1 none, .o 1 none, .o 1 none, .o 1 none, .o 1 none] 0, .rd 5 [] 0 0] [4, 5] (E1 := fun _ => [(4, .val (.pointer (some (⟨nu1 0, 0, none⟩)))), (5, .val (.nilIface))]) (h1 := fun _ => [(b, .cells #[.int .i64 fm, .int .i64 d, .int .i64 sh, .int .i64 q, .int .i64 t, .slice (some (⟨g, 0, none⟩)) 1 cap] 86 (0, 0)), (nu1 0, .cells #[.int .i64 fm, .int .i64 d, .int .i64 sh, .int .i64 q, .int .i64 t, .bool true, .slice none 0 0, .int .i64 0, .slice none 0 0] 37 (0, 0)), (g, .cells cur 37 (0, 0))]) (p1 := fun _ => []) (W1 := []) (fun _ => by kernel_rfl) (fun _ => trivial) (fun _ => ?_)
  refine JR_end ?_
  refine J_return [[.o 1 none, .o 1 none, .o 1 none, .o 1 none, .o 1 none, .o 1 none, .o 1 none, .o 1 none, .o 1 none], []] (.tuple #[.agg #[.int .i64 fm, .int .i64 d, .int .i64 sh, .int .i64 q, .int .i64 t, .bool true, .slice none 0 0, .int .i64 0, .slice none 0 0], .nilIface]) (by kernel_rfl) (fun a w s => ?_)
  exact ⟨rfl, s.fr ([b], w0) (by simp), g, cap, cur, s.fresh 1 2 rfl rfl (by have := s.own.nodup; simp at this ⊢; omega), s.at 0 rfl, s.at 2 rfl, hrow⟩

theorem beat10row {w0 : World} {b g cap : Nat} {cur : Array Value} {fm d sh q t q0 t0 : Int} {l : List (Int × Int)} (hq : q = q0 + 1) (hb : 0 ≤ q0) (hb2 : q0 < 1000000) (ht0 : 0 ≤ t) (ht : t ≤ 1000) (htt : t0 ≤ t) (hl : l.length < 1000) (hbg : b ≠ g)
    (hblk : w0.heap[b]? = some (.cells (sc fm d sh q0 t0 (.slice (some ⟨g, 0, none⟩) l.length cap)) 86 (0, 0))) (hg : w0.heap[g]? = some (.cells cur 37 (0, 0))) (hrow : Row cur cap l.length 9 (bcs fm d sh l)) :
    Calls Tryd.prog 10 #[.pointer (some ⟨b, 0, none⟩), .int .i64 t] w0 fun e w' => e = .returned (.tuple #[.agg (bc fm d sh q t), .nilIface]) ∧ Fr [b, g] w0 w' ∧
      ∃ g' cap' cur', (g' = g ∨ w0.heap.size ≤ g') ∧ w'.heap[b]? = some (.cells (sc fm d sh q t (.slice (some ⟨g', 0, none⟩) (l.length + 1) cap')) 86 (0, 0)) ∧ w'.heap[g']? = some (.cells cur' 37 (0, 0)) ∧ Row cur' cap' (l.length + 1) 9 (bcs fm d sh (l ++ [(q, t)])) := by
  refine en10 (args := [.pointer (some ⟨b, 0, none⟩), .int .i64 t]) (h := [(b, .cells (sc fm d sh q0 t0 (.slice (some ⟨g, 0, none⟩) l.length cap)) 86 (0, 0)), (g, .cells cur 37 (0, 0))]) (r := []) (F := [([b, g], w0)]) (by kernel_rfl) ⟨by simp [Hp, hblk, hg], by simp [hbg], by simp [Hp], by simp⟩ (by simp [Fr.refl]) (by simp) ?_
  refine J_seq ?_
  refine J_reg mixed [.wr 0 [] 0, .rd 1 [] 0 0] [] [0, 1, 4, 5] (E1 := fun nu1 => [(0, .val (.pointer (some (⟨b, 0, none⟩)))), (1, .val (.int .i64 t)), (4, .val (.pointer (some (⟨nu1 0, 0, none⟩)))), (5, .val (.nilIface))]) (h1 := fun nu1 => [(b, .cells #[.int .i64 fm, .int .i64 d, .int .i64 sh, .int .i64 q0, .int .i64 t0, .slice (some (⟨g, 0, none⟩)) l.length cap] 86 (0, 0)), (g, .cells cur 37 (0, 0)), (nu1 0, .cells #[.int .i64 0, .int .i64 0, .int .i64 0, .int .i64 0, .int .i64 0, .bool false, .slice none 0 0, .int .i64 0, .slice none 0 0] 37 (0, 0))]) (p1 := fun nu1 => []) (W1 := []) (by kernel_rfl) (fun _ => by kernel_rfl) (fun _ => trivial) (fun nu1 => ?_)
  refine J_seq ?_
  refine J_block ?_
  refine J_seq ?_
  refine J_reg mixed [.rd 0 [] 0 0, .rd 1 [] 0 0, .rd 2 [] 0 0, .rd 3 [] 2 0, .rd 4 [] 2 0, .rd 5 [] 0 3, .rd 6 [] 0 0] [] [0, 1, 4, 5, 6] (E1 := fun _ => [(0, .val (.pointer (some (⟨b, 0, none⟩)))), (1, .val (.int .i64 t)), (4, .val (.pointer (some (⟨nu1 0, 0, none⟩)))), (5, .val (.nilIface)), (6, .val (.bool (decide (t < 0) || decide (t > 1099511627776))))]) (h1 := fun _ => [(b, .cells #[.int .i64 fm, .int .i64 d, .int .i64 sh, .int .i64 q0, .int .i64 t0, .slice (some (⟨g, 0, none⟩)) l.length cap] 86 (0, 0)), (g, .cells cur 37 (0, 0)), (nu1 0, .cells #[.int .i64 0, .int .i64 0, .int .i64 0, .int .i64 0, .int .i64 0, .bool false, .slice none 0 0, .int .i64 0, .slice none 0 0] 37 (0, 0))]) (p1 := fun _ => []) (W1 := []) (by kernel_rfl) (fun _ => by kernel_rfl) (fun _ => trivial) (fun _ => ?_)
  refine J_condF (decide (t < 0) || decide (t > 1099511627776)) (by kernel_rfl) (by kernel_rfl) (by simp; omega) ?_
  refine J_seq ?_
  refine J_reg mixed [.rd 0 [] 0 0, .rd 1 [] 0 0, .rd 2 [] 0 0, .rd 3 [] 0 0, .rd 4 [.o 0 none] 0 0, .rd 5 [] 0 0, .rd 6 [] 0 0] [] [0, 1, 4, 5, 15] (E1 := fun _ => [(0, .val (.pointer (some (⟨b, 0, none⟩)))), (1, .val (.int .i64 t)), (4, .val (.pointer (some (⟨nu1 0, 0, none⟩)))), (5, .val (.nilIface)), (15, .val (.bool (decide (t < t0))))]) (h1 := fun _ => [(b, .cells #[.int .i64 fm, .int .i64 d, .int .i64 sh, .int .i64 q0, .int .i64 t0, .slice (some (⟨g, 0, none⟩)) l.length cap] 86 (0, 0)), (g, .cells cur 37 (0, 0)), (nu1 0, .cells #[.int .i64 0, .int .i64 0, .int .i64 0, .int .i64 0, .int .i64 0, .bool false, .slice none 0 0, .int .i64 0, .slice none 0 0] 37 (0, 0))]) (p1 := fun _ => []) (W1 := []) (by kernel_rfl) (fun _ => by kernel_rfl) (fun _ => trivial) (fun _ => ?_)
  refine J_condF (decide (t < t0)) (by kernel_rfl) (by kernel_rfl) (by simpa using ‹_›) ?_
  refine J_skip ?_
  refine J_eb ?_
  refine J_seq ?_
  refine JR_begin mixed [(0, true), (1, true), (2, true), (3, false), (4, false), (5, true)] [] (by kernel_rfl) (by kernel_rfl) ?_
  refine JR_run (id := 5) (rest := [(3, false), (4, false), (5, true)]) [.rd 0 [] 0 0, .rd 1 [] 0 0, .rd 2 [] 0 0] [4, 5, 24, 25, 26] (E1 := fun _ => [(4, .val (.pointer (some (⟨nu1 0, 0, none⟩)))), (5, .val (.nilIface)), (24, .val (.pointer (some (⟨b, 0, none⟩)))), (25, .val (.int .i64 t)), (26, .val (.agg #[.slice none 0 0, .int .i64 0, .slice none 0 0]))]) (h1 := fun _ => [(b, .cells #[.int .i64 fm, .int .i64 d, .int .i64 sh, .int .i64 q0, .int .i64 t0, .slice (some (⟨g, 0, none⟩)) l.length cap] 86 (0, 0)), (g, .cells cur 37 (0, 0)), (nu1 0, .cells #[.int .i64 0, .int .i64 0, .int .i64 0, .int .i64 0, .int .i64 0, .bool false, .slice none 0 0, .int .i64 0, .slice none 0 0] 37 (0, 0))]) (p1 := fun _ => []) (W1 := []) (fun _ => by kernel_rfl) (fun _ => trivial) (fun _ => ?_)
  refine JR_call [] [0, 1] 33 #[.pointer (some (⟨b, 0, none⟩)), .int .i64 t, .agg #[.slice none 0 0, .int .i64 0, .slice none 0 0], .bool true] (some 27) (by kernel_rfl) (by kernel_rfl) (fun a w s => ?_)
  refine (next33row hq hb hb2 hl hbg (s.at 0 rfl) (s.at 1 rfl) hrow).mono ?_
  rintro e w1 ⟨rfl, hf, g', cap', cur', hg0, hb1, hg1, hrow'⟩
  rcases hg0 with rfl | hg0
  · have D := did_turn2 s hf 0 1 rfl rfl (by decide) hb1 hg1 [] (by simp) (by simp)
    refine ⟨_, _, rfl, D.1, D.2, ?_⟩
    refine JR_run (id := 5) (rest := []) [.wr 4 [.o 2 none, .o 2 none, .o 2 none, .o 2 none, .o 2 none, .o 2 none, .o 2 none, .o 2 none, .o 2 none] 0, .rd 5 [] 0 0] [4, 5] (E1 := fun _ => [(4, .val (.pointer (some (⟨nu1 0, 0, none⟩)))), (5, .val (.nilIface))]) (h1 := fun _ => [(b, .cells #[.int .i64 fm, .int .i64 d, .int .i64 sh, .int .i64 q, .int .i64 t, .slice (some (⟨g', 0, none⟩)) (l.length + 1) cap'] 86 (0, 0)), (g', .cells cur' 37 (0, 0)), (nu1 0, .cells #[.int .i64 fm, .int .i64 d, .int .i64 sh, .int .i64 q, .int .i64 t, .bool true, .slice none 0 0, .int .i64 0, .slice none 0 0] 37 (0, 0))]) (p1 := fun _ => []) (W1 := []) (fun _ => by kernel_rfl) (fun _ => trivial) (fun _ => ?_)
    refine JR_end ?_
    refine J_return [[.o 2 none, .o 2 none, .o 2 none, .o 2 none, .o 2 none, .o 2 none, .o 2 none, .o 2 none, .o 2 none], []] (.tuple #[.agg #[.int .i64 fm, .int .i64 d, .int .i64 sh, .int .i64 q, .int .i64 t, .bool true, .slice none 0 0, .int .i64 0, .slice none 0 0], .nilIface]) (by kernel_rfl) (fun a w s => ?_)
    exact ⟨rfl, s.fr ([b, g'], w0) (by simp), g', cap', cur', .inl rfl, s.at 0 rfl, s.at 1 rfl, hrow'⟩
  · obtain ⟨o', ho'⟩ : ∃ o', w1.heap[g]? = some o' := ⟨_, Array.getElem?_eq_getElem (Nat.lt_of_lt_of_le ((Array.getElem?_eq_some_iff.1 (s.at 1 rfl)).1) hf.size)⟩
    have D := did_turn2 s hf 0 1 rfl rfl (by decide) hb1 ho' [(g', .cells cur' 37 (0, 0))] (by simp [hg0, hg1]) (by simp)
    refine ⟨_, _, rfl, D.1, D.2, ?_⟩
    refine JR_run (id := 5) (rest := []) [.wr 4 [.o 2 none, .o 2 none, .o 2 none, .o 2 none, .o 2 none, .o 2 none, .o 2 none, .o 2 none, .o 2 none] 0, .rd 5 [] 0 0] [4, 5] (E1 := fun _ => [(4, .val (.pointer (some (⟨nu1 0, 0, none⟩)))), (5, .val (.nilIface))]) (h1 := fun _ => [(b, .cells #[.int .i64 fm, .int .i64 d, .int .i64 sh, .int .i64 q, .int .i64 t, .slice (some (⟨g', 0, none⟩)) (l.length + 1) cap'] 86 (0, 0)), (g, o'), (nu1 0, .cells #[.int .i64 fm, .int .i64 d, .int .i64 sh, .int .i64 q, .int .i64 t, .bool true, .slice none 0 0, .int .i64 0, .slice none 0 0] 37 (0, 0)), (g', .cells cur' 37 (0, 0))]) (p1 := fun _ => []) (W1 := []) (fun _ => by kernel_rfl) (fun _ => trivial) (fun _ => ?_)
    refine JR_end ?_
    refine J_return [[.o 2 none, .o 2 none, .o 2 none, .o 2 none, .o 2 none, .o 2 none, .o 2 none, .o 2 none, .o 2 none], []] (.tuple #[.agg #[.int .i64 fm, .int .i64 d, .int .i64 sh, .int .i64 q, .int .i64 t, .bool true, .slice none 0 0, .int .i64 0, .slice none 0 0], .nilIface]) (by kernel_rfl) (fun a w s => ?_)
    exact ⟨rfl, s.fr ([b, g], w0) (by simp), g', cap', cur', .inr (s.fresh 1 3 rfl rfl (by have := s.own.nodup; simp at this ⊢; omega)), s.at 0 rfl, s.at 3 rfl, hrow'⟩

/-- Receiver.Seq. -/
theorem seq13 {w0 : World} {b : Nat} {fm d sh q t : Int} {v : Value} (hblk : w0.heap[b]? = some (.cells (sc fm d sh q t v) 89 (0, 0))) :
    Calls Tryd.prog 13 #[.pointer (some ⟨b, 0, none⟩)] w0 fun e w' => e = .returned (.int .i64 q) ∧ Fr [] w0 w' := by
  refine en13 (args := [.pointer (some ⟨b, 0, none⟩)]) (h := []) (r := [(b, .cells (sc fm d sh q t v) 89 (0, 0))]) (F := [([], w0)]) (by kernel_rfl) (own_nil (by simpa using hblk)) (by simp [Fr.refl]) (by simp) ?_
  refine J_seq ?_
  refine J_reg mixed [.rd 0 [] 0 0] [] [0, 2] (E1 := fun _ => [(0, .val (.pointer (some (⟨b, 0, none⟩)))), (2, .val (.int .i64 0))]) (h1 := fun _ => []) (p1 := fun _ => []) (W1 := []) (by kernel_rfl) (fun _ => by kernel_rfl) (fun _ => trivial) (fun _ => ?_)
  refine J_seq ?_
  refine J_reg mixed [.rd 0 [] 0 0, .rd 1 [] 0 0, .rd 2 [] 0 0, .rd 3 [.r 0 none] 0 0, .rd 4 [] 0 0] [] [2] (E1 := fun _ => [(2, .val (.int .i64 q))]) (h1 := fun _ => []) (p1 := fun _ => []) (W1 := []) (by kernel_rfl) (fun _ => by kernel_rfl) (fun _ => trivial) (fun _ => ?_)
  refine J_return [[]] (.int .i64 q) (by kernel_rfl) (fun a w s => ?_)
  exact ⟨rfl, s.fr ([], w0) (by simp)⟩
end Go.Proofs.YtgelnbgjabpdbaaDoor
