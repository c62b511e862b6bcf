/- VectorAhead, walked: where there is an error. -/
import Derived.Test.YtibkfmobofikmaaDoorAhead
import Derived.Test.YtibkfmobofikmaaDoorVTwo
import Derived.Test.YtibkfmobofikmaaDoorVLaws
namespace Go.Proofs.YtibkfmobofikmaaDoor
open Go Go.Sx

set_option maxHeartbeats 16000000 in
theorem vaheadA0 {w : World} {S : Nat → Prop} {er : Nat → Addr} {eb : Nat → Array Value × TypeId} {a b : Option Addr} {n m ca cb : Nat} {xs ys : List Int} {p q : Int} (hC : Rep w S .nilIface (dC er eb)) (hI : Inj er) (ha : Rep w S (.slice a n ca) (dInts xs)) (hb : Rep w S (.slice b m cb) (dInts ys)) (hab : twoErr xs ys ≠ 0) (hx0 : vecErr xs = 0) :
    Calls Tryd.prog 6 #[.slice a n ca, .int .i64 p, .slice b m cb, .int .i64 q] w fun e w' => Ret [] w S w' e (.bool true) [] [] := by
  obtain rfl := rep_ints_len ha
  obtain rfl := rep_ints_len hb
  refine ep6 (args := [.slice a xs.length ca, .int .i64 p, .slice b ys.length cb, .int .i64 q]) (G := [(_, dC er eb), (_, dInts xs), (_, dInts ys)]) (by kernel_rfl) (.cons hC (.cons ha (.cons hb (.nil _ _)))) ?_
  refine J_seq ?_
  refine J_reg mixed [.rd 0 [] 0 0] [] [0, 1, 2, 3, 8] (E1 := fun _ => [(0, .val (.slice a xs.length ca)), (1, .val (.int .i64 p)), (2, .val (.slice b ys.length cb)), (3, .val (.int .i64 q)), (8, .val (.bool false))]) (h1 := fun _ => []) (p1 := fun _ => []) (W1 := []) (by kernel_rfl) (fun _ => by kernel_rfl) (fun _ => trivial) (fun _ => ?_)
  refine J_seq ?_
  refine JR_begin mixed [(0, false), (1, true)] [] (by kernel_rfl) (by kernel_rfl) ?_
  refine JR_callp [] 11 #[] (some 21) (by kernel_rfl) (fun w S hG => ?_)
  refine (vtimed (globs_of (hG.at 0 rfl))).mono ?_
  rintro e1 w1 hR
  refine ⟨_, _, _, hR, ?_⟩
  try simp only [List.cons_append, List.nil_append, List.append_nil]
  refine JR_run (id := 1) (rest := []) [.rd 1 [] 0 0] [0, 1, 2, 3, 8, 9] (E1 := fun _ => [(0, .val (.slice a xs.length ca)), (1, .val (.int .i64 p)), (2, .val (.slice b ys.length cb)), (3, .val (.int .i64 q)), (8, .val (.bool false)), (9, .val (.bool true))]) (h1 := fun _ => []) (p1 := fun _ => []) (W1 := []) (fun _ => by kernel_rfl) (fun _ => trivial) (fun _ => ?_)
  refine JR_end ?_
  refine J_seq ?_
  refine J_seq ?_
  refine J_reg mixed [.rd 0 [] 0 0, .rd 1 [] 0 0, .rd 2 [] 0 0, .rd 3 [] 0 0, .rd 4 [] 0 0, .rd 5 [] 0 0, .rd 6 [] 0 0, .rd 7 [] 0 0, .rd 8 [] 2 0, .rd 9 [] 2 0, .rd 10 [] 2 0, .rd 11 [] 0 3] [] [0, 1, 2, 3, 8, 9, 33] (E1 := fun _ => [(0, .val (.slice a xs.length ca)), (1, .val (.int .i64 p)), (2, .val (.slice b ys.length cb)), (3, .val (.int .i64 q)), (8, .val (.bool false)), (9, .val (.bool true)), (33, .val (.bool (decide ((↑xs.length : Int) > 20) || decide ((↑ys.length : Int) > 20))))]) (h1 := fun _ => []) (p1 := fun _ => []) (W1 := []) (by kernel_rfl) (fun _ => by kernel_rfl) (fun _ => trivial) (fun _ => ?_)
  refine J_cond (t := decide ((↑xs.length : Int) > 20) || decide ((↑ys.length : Int) > 20)) (by kernel_rfl) (by kernel_rfl) (fun hbad => ?_) (fun hbad => ?_)
  · refine J_seq ?_
    refine J_reg mixed [.rd 0 [] 0 0, .rd 1 [] 0 0] [] [0, 1, 2, 3, 8] (E1 := fun _ => [(0, .val (.slice a xs.length ca)), (1, .val (.int .i64 p)), (2, .val (.slice b ys.length cb)), (3, .val (.int .i64 q)), (8, .val (.bool true))]) (h1 := fun _ => []) (p1 := fun _ => []) (W1 := []) (by kernel_rfl) (fun _ => by kernel_rfl) (fun _ => trivial) (fun _ => ?_)
    refine J_return [[]] (.bool true) (by kernel_rfl) (fun a w s => ?_)
    exact s.ret (by simp) [] [] rfl rfl
  obtain ⟨hl1, hl2⟩ : xs.length ≤ 20 ∧ ys.length ≤ 20 := by simp at hbad; omega
  refine J_skip ?_
  refine J_seq ?_
  refine JR_begin mixed [(0, true), (1, false), (2, false), (3, true), (4, true), (5, true), (6, true), (7, true)] [] (by kernel_rfl) (by kernel_rfl) ?_
  refine JR_run (id := 4) (rest := [(1, false), (2, false), (3, true), (4, true), (5, true), (6, true), (7, true)]) [.rd 0 [] 0 0] [0, 1, 2, 3, 8, 36] (E1 := fun _ => [(0, .val (.slice a xs.length ca)), (1, .val (.int .i64 p)), (2, .val (.slice b ys.length cb)), (3, .val (.int .i64 q)), (8, .val (.bool false)), (36, .val (.slice a xs.length ca))]) (h1 := fun _ => []) (p1 := fun _ => []) (W1 := []) (fun _ => by kernel_rfl) (fun _ => trivial) (fun _ => ?_)
  refine JR_callp [] 13 #[.slice a xs.length ca] (some 37) (by kernel_rfl) (fun w S hG => ?_)
  refine (vown (hG.at 1 rfl) (by omega)).mono ?_
  rintro e2 w2 ⟨oa2, oc2, hR⟩
  refine ⟨_, _, _, hR, ?_⟩
  try simp only [List.cons_append, List.nil_append, List.append_nil]
  refine JR_callp [] 17 #[.slice oa2 xs.length oc2] (some 38) (by kernel_rfl) (fun w S hG => ?_)
  refine (vweight (globs_of (hG.at 0 rfl)) (hG.at 3 rfl) (by omega)).mono ?_
  rintro e3 w3 (⟨h9, hR⟩ | ⟨h9, hR⟩)
  · exact absurd hx0 h9
  refine ⟨_, _, _, hR, ?_⟩
  try simp only [List.cons_append, List.nil_append, List.append_nil]
  refine JR_run (id := 4) (rest := []) [.rd 3 [] 0 0, .rd 4 [] 0 0, .rd 5 [] 0 0, .rd 6 [] 0 0, .rd 7 [] 0 0] [0, 1, 2, 3, 8, 10, 11] (E1 := fun _ => [(0, .val (.slice a xs.length ca)), (1, .val (.int .i64 p)), (2, .val (.slice b ys.length cb)), (3, .val (.int .i64 q)), (8, .val (.bool false)), (10, .val (.int .i64 (sumL xs))), (11, .val (.nilIface))]) (h1 := fun _ => []) (p1 := fun _ => []) (W1 := []) (fun _ => by kernel_rfl) (fun _ => trivial) (fun _ => ?_)
  refine JR_end ?_
  refine J_seq ?_
  refine JR_begin mixed [(0, true), (1, false), (2, true), (3, true), (4, false), (5, true), (6, false), (7, true), (8, true), (9, true), (10, true), (11, true)] [] (by kernel_rfl) (by kernel_rfl) ?_
  refine JR_run (id := 5) (rest := [(1, false), (2, true), (3, true), (4, false), (5, true), (6, false), (7, true), (8, true), (9, true), (10, true), (11, true)]) [.rd 0 [] 0 0] [0, 1, 2, 3, 8, 10, 11, 42] (E1 := fun _ => [(0, .val (.slice a xs.length ca)), (1, .val (.int .i64 p)), (2, .val (.slice b ys.length cb)), (3, .val (.int .i64 q)), (8, .val (.bool false)), (10, .val (.int .i64 (sumL xs))), (11, .val (.nilIface)), (42, .val (.slice a xs.length ca))]) (h1 := fun _ => []) (p1 := fun _ => []) (W1 := []) (fun _ => by kernel_rfl) (fun _ => trivial) (fun _ => ?_)
  refine JR_callp [] 13 #[.slice a xs.length ca] (some 43) (by kernel_rfl) (fun w S hG => ?_)
  refine (vown (hG.at 1 rfl) (by omega)).mono ?_
  rintro e4 w4 ⟨oa4, oc4, hR⟩
  refine ⟨_, _, _, hR, ?_⟩
  try simp only [List.cons_append, List.nil_append, List.append_nil]
  refine JR_run (id := 5) (rest := [(4, false), (5, true), (6, false), (7, true), (8, true), (9, true), (10, true), (11, true)]) [.rd 2 [] 0 0, .rd 3 [] 0 0] [0, 1, 2, 3, 8, 10, 11, 43, 44, 45] (E1 := fun _ => [(0, .val (.slice a xs.length ca)), (1, .val (.int .i64 p)), (2, .val (.slice b ys.length cb)), (3, .val (.int .i64 q)), (8, .val (.bool false)), (10, .val (.int .i64 (sumL xs))), (11, .val (.nilIface)), (43, .val (.slice oa4 xs.length oc4)), (44, .val (.int .i64 p)), (45, .val (.slice b ys.length cb))]) (h1 := fun _ => []) (p1 := fun _ => []) (W1 := []) (fun _ => by kernel_rfl) (fun _ => trivial) (fun _ => ?_)
  refine JR_callp [] 13 #[.slice b ys.length cb] (some 46) (by kernel_rfl) (fun w S hG => ?_)
  refine (vown (hG.at 2 rfl) (by omega)).mono ?_
  rintro e5 w5 ⟨oa5, oc5, hR⟩
  refine ⟨_, _, _, hR, ?_⟩
  try simp only [List.cons_append, List.nil_append, List.append_nil]
  refine JR_run (id := 5) (rest := [(6, false), (7, true), (8, true), (9, true), (10, true), (11, true)]) [.rd 5 [] 0 0] [0, 1, 2, 3, 8, 10, 11, 43, 44, 46, 47] (E1 := fun _ => [(0, .val (.slice a xs.length ca)), (1, .val (.int .i64 p)), (2, .val (.slice b ys.length cb)), (3, .val (.int .i64 q)), (8, .val (.bool false)), (10, .val (.int .i64 (sumL xs))), (11, .val (.nilIface)), (43, .val (.slice oa4 xs.length oc4)), (44, .val (.int .i64 p)), (46, .val (.slice oa5 ys.length oc5)), (47, .val (.int .i64 q))]) (h1 := fun _ => []) (p1 := fun _ => []) (W1 := []) (fun _ => by kernel_rfl) (fun _ => trivial) (fun _ => ?_)
  refine JR_callp [] 26 #[.slice oa4 xs.length oc4, .int .i64 p, .slice oa5 ys.length oc5, .int .i64 q] (some 48) (by kernel_rfl) (fun w S hG => ?_)
  refine (vahead (globs_of (hG.at 0 rfl)) (hG.at 4 rfl) (hG.at 5 rfl) (by omega) (by omega)).mono ?_
  rintro e6 w6 (⟨h2, hR⟩ | ⟨h2, _⟩ | ⟨h2, _⟩)
  rotate_left
  · exact absurd h2 hab
  · exact absurd h2 hab
  refine ⟨_, _, _, hR, ?_⟩
  try simp only [List.cons_append, List.nil_append, List.append_nil]
  refine JR_run (id := 5) (rest := []) [.rd 7 [] 0 0, .rd 8 [] 0 0, .rd 9 [] 0 0, .rd 10 [] 0 0, .rd 11 [] 0 0] [0, 1, 2, 3, 8, 10, 11, 12, 13] (E1 := fun _ => [(0, .val (.slice a xs.length ca)), (1, .val (.int .i64 p)), (2, .val (.slice b ys.length cb)), (3, .val (.int .i64 q)), (8, .val (.bool false)), (10, .val (.int .i64 (sumL xs))), (11, .val (.nilIface)), (12, .val (.bool false)), (13, .val (.iface 94 (.pointer (some (er (twoErr xs ys))))))]) (h1 := fun _ => []) (p1 := fun _ => []) (W1 := []) (fun _ => by kernel_rfl) (fun _ => trivial) (fun _ => ?_)
  refine JR_end ?_
  refine J_seq ?_
  refine J_seq ?_
  refine JR_begin mixed [(0, true), (1, false), (2, true)] [] (by kernel_rfl) (by kernel_rfl) ?_
  refine JR_run (id := 6) (rest := [(1, false), (2, true)]) [.rd 0 [] 0 0] [0, 1, 2, 3, 8, 10, 11, 12, 13, 51] (E1 := fun _ => [(0, .val (.slice a xs.length ca)), (1, .val (.int .i64 p)), (2, .val (.slice b ys.length cb)), (3, .val (.int .i64 q)), (8, .val (.bool false)), (10, .val (.int .i64 (sumL xs))), (11, .val (.nilIface)), (12, .val (.bool false)), (13, .val (.iface 94 (.pointer (some (er (twoErr xs ys)))))), (51, .val (.slice a xs.length ca))]) (h1 := fun _ => []) (p1 := fun _ => []) (W1 := []) (fun _ => by kernel_rfl) (fun _ => trivial) (fun _ => ?_)
  refine JR_callp [] 22 #[.slice a xs.length ca] (some 52) (by kernel_rfl) (fun w S hG => ?_)
  refine (rVecErr (hG.at 1 rfl) (by omega)).mono ?_
  rintro e7 w7 hR
  rw [hx0] at hR
  refine ⟨_, _, _, hR, ?_⟩
  try simp only [List.cons_append, List.nil_append, List.append_nil]
  refine JR_run (id := 6) (rest := []) [.rd 2 [] 0 0] [0, 1, 2, 3, 8, 10, 11, 12, 13, 53] (E1 := fun _ => [(0, .val (.slice a xs.length ca)), (1, .val (.int .i64 p)), (2, .val (.slice b ys.length cb)), (3, .val (.int .i64 q)), (8, .val (.bool false)), (10, .val (.int .i64 (sumL xs))), (11, .val (.nilIface)), (12, .val (.bool false)), (13, .val (.iface 94 (.pointer (some (er (twoErr xs ys)))))), (53, .val (.bool false))]) (h1 := fun _ => []) (p1 := fun _ => []) (W1 := []) (fun _ => by kernel_rfl) (fun _ => trivial) (fun _ => ?_)
  refine JR_end ?_
  refine J_cond_f (by kernel_rfl) (by kernel_rfl) ?_
  refine J_seq ?_
  refine JR_begin mixed [(0, true), (1, true), (2, true), (3, true), (4, true), (5, false), (6, true), (7, true)] [] (by kernel_rfl) (by kernel_rfl) ?_
  refine JR_run (id := 9) (rest := [(5, false), (6, true), (7, true)]) [.rd 0 [] 0 0, .rd 1 [] 0 0, .rd 2 [] 0 0, .rd 3 [] 0 0, .rd 4 [] 0 0] [0, 1, 2, 3, 8, 12, 13, 65, 66, 67] (E1 := fun _ => [(0, .val (.slice a xs.length ca)), (1, .val (.int .i64 p)), (2, .val (.slice b ys.length cb)), (3, .val (.int .i64 q)), (8, .val (.bool false)), (12, .val (.bool false)), (13, .val (.iface 94 (.pointer (some (er (twoErr xs ys)))))), (65, .val (.bool false)), (66, .val (.int .i64 (sumL xs))), (67, .val (.slice a xs.length ca))]) (h1 := fun _ => []) (p1 := fun _ => []) (W1 := []) (fun _ => by kernel_rfl) (fun _ => trivial) (fun _ => ?_)
  refine JR_callp [] 27 #[.slice a xs.length ca] (some 68) (by kernel_rfl) (fun w S hG => ?_)
  refine (rWeight (hG.at 1 rfl) hx0).mono ?_
  rintro e8 w8 hR
  refine ⟨_, _, _, hR, ?_⟩
  try simp only [List.cons_append, List.nil_append, List.append_nil]
  refine JR_run (id := 9) (rest := []) [.rd 6 [] 0 7, .rd 7 [] 0 0] [0, 1, 2, 3, 8, 12, 13, 70] (E1 := fun _ => [(0, .val (.slice a xs.length ca)), (1, .val (.int .i64 p)), (2, .val (.slice b ys.length cb)), (3, .val (.int .i64 q)), (8, .val (.bool false)), (12, .val (.bool false)), (13, .val (.iface 94 (.pointer (some (er (twoErr xs ys)))))), (70, .val (.bool false))]) (h1 := fun _ => []) (p1 := fun _ => [(sumL xs != sumL xs) = false]) (W1 := []) (fun _ => by kernel_rfl) (fun _ => ⟨by simp, trivial⟩) (fun _ => ?_)
  refine JR_end ?_
  refine J_cond_f (by kernel_rfl) (by kernel_rfl) ?_
  refine J_skip ?_
  refine J_seq ?_
  refine JR_begin mixed [(0, true), (1, true), (2, false), (3, true)] [] (by kernel_rfl) (by kernel_rfl) ?_
  refine JR_run (id := 11) (rest := [(2, false), (3, true)]) [.rd 0 [] 0 0, .rd 1 [] 0 0] [0, 1, 2, 3, 8, 12, 13, 71, 72] (E1 := fun _ => [(0, .val (.slice a xs.length ca)), (1, .val (.int .i64 p)), (2, .val (.slice b ys.length cb)), (3, .val (.int .i64 q)), (8, .val (.bool false)), (12, .val (.bool false)), (13, .val (.iface 94 (.pointer (some (er (twoErr xs ys)))))), (71, .val (.slice a xs.length ca)), (72, .val (.slice b ys.length cb))]) (h1 := fun _ => []) (p1 := fun _ => []) (W1 := []) (fun _ => by kernel_rfl) (fun _ => trivial) (fun _ => ?_)
  refine JR_callp [] 19 #[.slice a xs.length ca, .slice b ys.length cb] (some 73) (by kernel_rfl) (fun w S hG => ?_)
  refine (rTwoErr (hG.at 1 rfl) (hG.at 2 rfl) (by omega) (by omega)).mono ?_
  rintro e9 w9 hR
  refine ⟨_, _, _, hR, ?_⟩
  try simp only [List.cons_append, List.nil_append, List.append_nil]
  refine JR_run (id := 11) (rest := []) [.rd 3 [] 0 0] [0, 1, 2, 3, 8, 12, 13, 14] (E1 := fun _ => [(0, .val (.slice a xs.length ca)), (1, .val (.int .i64 p)), (2, .val (.slice b ys.length cb)), (3, .val (.int .i64 q)), (8, .val (.bool false)), (12, .val (.bool false)), (13, .val (.iface 94 (.pointer (some (er (twoErr xs ys)))))), (14, .val (.int .i64 ((↑(twoErr xs ys) : Int))))]) (h1 := fun _ => []) (p1 := fun _ => []) (W1 := []) (fun _ => by kernel_rfl) (fun _ => trivial) (fun _ => ?_)
  refine JR_end ?_
  refine J_seq ?_
  refine J_seq ?_
  refine J_reg mixed [.rd 0 [] 0 0, .rd 1 [] 0 7, .rd 2 [] 0 0, .rd 3 [] 1 0, .rd 4 [] 1 0, .rd 5 [] 1 0, .rd 6 [] 1 0, .rd 7 [] 1 0, .rd 8 [] 1 0, .rd 9 [] 1 0, .rd 10 [] 1 0, .rd 11 [] 1 0, .rd 12 [] 1 0, .rd 13 [] 1 0, .rd 14 [] 1 0, .rd 15 [] 1 0, .rd 16 [] 1 0, .rd 17 [] 1 0, .rd 18 [] 1 0, .rd 19 [] 1 0, .rd 20 [] 1 0, .rd 21 [] 0 0] [] [0, 1, 2, 3, 8, 12, 13, 14, 95] (E1 := fun _ => [(0, .val (.slice a xs.length ca)), (1, .val (.int .i64 p)), (2, .val (.slice b ys.length cb)), (3, .val (.int .i64 q)), (8, .val (.bool false)), (12, .val (.bool false)), (13, .val (.iface 94 (.pointer (some (er (twoErr xs ys)))))), (14, .val (.int .i64 ((↑(twoErr xs ys) : Int)))), (95, .val (.bool false))]) (h1 := fun _ => []) (p1 := fun _ => [((↑(twoErr xs ys) : Int) == (0 : Int)) = false]) (W1 := []) (by kernel_rfl) (fun _ => by kernel_rfl) (fun _ => ⟨by simp; omega, trivial⟩) (fun _ => ?_)
  refine J_cond_f (by kernel_rfl) (by kernel_rfl) ?_
  refine J_skip ?_
  refine J_seq ?_
  refine J_seq ?_
  refine J_reg mixed [.rd 0 [] 0 0, .rd 1 [] 0 6] [] [0, 1, 2, 3, 8, 12, 13, 14, 97] (E1 := fun _ => [(0, .val (.slice a xs.length ca)), (1, .val (.int .i64 p)), (2, .val (.slice b ys.length cb)), (3, .val (.int .i64 q)), (8, .val (.bool false)), (12, .val (.bool false)), (13, .val (.iface 94 (.pointer (some (er (twoErr xs ys)))))), (14, .val (.int .i64 ((↑(twoErr xs ys) : Int)))), (97, .val (.bool true))]) (h1 := fun _ => []) (p1 := fun _ => [decide ((↑(twoErr xs ys) : Int) > (0 : Int)) = true]) (W1 := []) (by kernel_rfl) (fun _ => by kernel_rfl) (fun _ => ⟨by simp; omega, trivial⟩) (fun _ => ?_)
  refine J_cond_t (by kernel_rfl) (by kernel_rfl) ?_
  refine J_seq ?_
  refine JR_begin mixed [(0, true), (1, true), (2, false), (3, true), (4, true), (5, true), (6, true), (7, true)] [] (by kernel_rfl) (by kernel_rfl) ?_
  refine JR_run (id := 15) (rest := [(2, false), (3, true), (4, true), (5, true), (6, true), (7, true)]) [.rd 0 [] 0 0, .rd 1 [] 0 0] [0, 1, 2, 3, 8, 12, 13, 98, 99] (E1 := fun _ => [(0, .val (.slice a xs.length ca)), (1, .val (.int .i64 p)), (2, .val (.slice b ys.length cb)), (3, .val (.int .i64 q)), (8, .val (.bool false)), (12, .val (.bool false)), (13, .val (.iface 94 (.pointer (some (er (twoErr xs ys)))))), (98, .val (.iface 94 (.pointer (some (er (twoErr xs ys)))))), (99, .val (.int .i64 ((↑(twoErr xs ys) : Int))))]) (h1 := fun _ => []) (p1 := fun _ => []) (W1 := []) (fun _ => by kernel_rfl) (fun _ => trivial) (fun _ => ?_)
  refine JR_callp [] 20 #[.iface 94 (.pointer (some (er (twoErr xs ys)))), .int .i64 ((↑(twoErr xs ys) : Int))] (some 100) (by kernel_rfl) (fun w S hG => ?_)
  refine (codedErr (hG.at 0 rfl) hI (k := twoErr xs ys) (by have := twoErr_le xs ys; omega) (.inr ⟨hab, rfl⟩)).mono ?_
  rintro e10 w10 hR
  rw [decide_eq_true rfl] at hR
  refine ⟨_, _, _, hR, ?_⟩
  try simp only [List.cons_append, List.nil_append, List.append_nil]
  refine JR_run (id := 15) (rest := []) [.rd 3 [] 0 0, .rd 4 [] 0 0, .rd 5 [] 0 0, .rd 6 [] 0 0, .rd 7 [] 0 0] [0, 1, 2, 3, 8, 12, 13] (E1 := fun _ => [(0, .val (.slice a xs.length ca)), (1, .val (.int .i64 p)), (2, .val (.slice b ys.length cb)), (3, .val (.int .i64 q)), (8, .val (.bool true)), (12, .val (.bool false)), (13, .val (.iface 94 (.pointer (some (er (twoErr xs ys))))))]) (h1 := fun _ => []) (p1 := fun _ => []) (W1 := []) (fun _ => by kernel_rfl) (fun _ => trivial) (fun _ => ?_)
  refine JR_end ?_
  refine J_return [[]] (.bool true) (by kernel_rfl) (fun a w s => ?_)
  exact s.ret (by simp) [] [] rfl rfl

set_option maxHeartbeats 16000000 in
theorem vaheadA1 {w : World} {S : Nat → Prop} {er : Nat → Addr} {eb : Nat → Array Value × TypeId} {a b : Option Addr} {n m ca cb : Nat} {xs ys : List Int} {p q : Int} (hC : Rep w S .nilIface (dC er eb)) (hI : Inj er) (ha : Rep w S (.slice a n ca) (dInts xs)) (hb : Rep w S (.slice b m cb) (dInts ys)) (hab : twoErr xs ys ≠ 0) (hx0 : vecErr xs ≠ 0) :
    Calls Tryd.prog 6 #[.slice a n ca, .int .i64 p, .slice b m cb, .int .i64 q] w fun e w' => Ret [] w S w' e (.bool true) [] [] := by
  obtain rfl := rep_ints_len ha
  obtain rfl := rep_ints_len hb
  refine ep6 (args := [.slice a xs.length ca, .int .i64 p, .slice b ys.length cb, .int .i64 q]) (G := [(_, dC er eb), (_, dInts xs), (_, dInts ys)]) (by kernel_rfl) (.cons hC (.cons ha (.cons hb (.nil _ _)))) ?_
  refine J_seq ?_
  refine J_reg mixed [.rd 0 [] 0 0] [] [0, 1, 2, 3, 8] (E1 := fun _ => [(0, .val (.slice a xs.length ca)), (1, .val (.int .i64 p)), (2, .val (.slice b ys.length cb)), (3, .val (.int .i64 q)), (8, .val (.bool false))]) (h1 := fun _ => []) (p1 := fun _ => []) (W1 := []) (by kernel_rfl) (fun _ => by kernel_rfl) (fun _ => trivial) (fun _ => ?_)
  refine J_seq ?_
  refine JR_begin mixed [(0, false), (1, true)] [] (by kernel_rfl) (by kernel_rfl) ?_
  refine JR_callp [] 11 #[] (some 21) (by kernel_rfl) (fun w S hG => ?_)
  refine (vtimed (globs_of (hG.at 0 rfl))).mono ?_
  rintro e1 w1 hR
  refine ⟨_, _, _, hR, ?_⟩
  try simp only [List.cons_append, List.nil_append, List.append_nil]
  refine JR_run (id := 1) (rest := []) [.rd 1 [] 0 0] [0, 1, 2, 3, 8, 9] (E1 := fun _ => [(0, .val (.slice a xs.length ca)), (1, .val (.int .i64 p)), (2, .val (.slice b ys.length cb)), (3, .val (.int .i64 q)), (8, .val (.bool false)), (9, .val (.bool true))]) (h1 := fun _ => []) (p1 := fun _ => []) (W1 := []) (fun _ => by kernel_rfl) (fun _ => trivial) (fun _ => ?_)
  refine JR_end ?_
  refine J_seq ?_
  refine J_seq ?_
  refine J_reg mixed [.rd 0 [] 0 0, .rd 1 [] 0 0, .rd 2 [] 0 0, .rd 3 [] 0 0, .rd 4 [] 0 0, .rd 5 [] 0 0, .rd 6 [] 0 0, .rd 7 [] 0 0, .rd 8 [] 2 0, .rd 9 [] 2 0, .rd 10 [] 2 0, .rd 11 [] 0 3] [] [0, 1, 2, 3, 8, 9, 33] (E1 := fun _ => [(0, .val (.slice a xs.length ca)), (1, .val (.int .i64 p)), (2, .val (.slice b ys.length cb)), (3, .val (.int .i64 q)), (8, .val (.bool false)), (9, .val (.bool true)), (33, .val (.bool (decide ((↑xs.length : Int) > 20) || decide ((↑ys.length : Int) > 20))))]) (h1 := fun _ => []) (p1 := fun _ => []) (W1 := []) (by kernel_rfl) (fun _ => by kernel_rfl) (fun _ => trivial) (fun _ => ?_)
  refine J_cond (t := decide ((↑xs.length : Int) > 20) || decide ((↑ys.length : Int) > 20)) (by kernel_rfl) (by kernel_rfl) (fun hbad => ?_) (fun hbad => ?_)
  · refine J_seq ?_
    refine J_reg mixed [.rd 0 [] 0 0, .rd 1 [] 0 0] [] [0, 1, 2, 3, 8] (E1 := fun _ => [(0, .val (.slice a xs.length ca)), (1, .val (.int .i64 p)), (2, .val (.slice b ys.length cb)), (3, .val (.int .i64 q)), (8, .val (.bool true))]) (h1 := fun _ => []) (p1 := fun _ => []) (W1 := []) (by kernel_rfl) (fun _ => by kernel_rfl) (fun _ => trivial) (fun _ => ?_)
    refine J_return [[]] (.bool true) (by kernel_rfl) (fun a w s => ?_)
    exact s.ret (by simp) [] [] rfl rfl
  obtain ⟨hl1, hl2⟩ : xs.length ≤ 20 ∧ ys.length ≤ 20 := by simp at hbad; omega
  refine J_skip ?_
  refine J_seq ?_
  refine JR_begin mixed [(0, true), (1, false), (2, false), (3, true), (4, true), (5, true), (6, true), (7, true)] [] (by kernel_rfl) (by kernel_rfl) ?_
  refine JR_run (id := 4) (rest := [(1, false), (2, false), (3, true), (4, true), (5, true), (6, true), (7, true)]) [.rd 0 [] 0 0] [0, 1, 2, 3, 8, 36] (E1 := fun _ => [(0, .val (.slice a xs.length ca)), (1, .val (.int .i64 p)), (2, .val (.slice b ys.length cb)), (3, .val (.int .i64 q)), (8, .val (.bool false)), (36, .val (.slice a xs.length ca))]) (h1 := fun _ => []) (p1 := fun _ => []) (W1 := []) (fun _ => by kernel_rfl) (fun _ => trivial) (fun _ => ?_)
  refine JR_callp [] 13 #[.slice a xs.length ca] (some 37) (by kernel_rfl) (fun w S hG => ?_)
  refine (vown (hG.at 1 rfl) (by omega)).mono ?_
  rintro e2 w2 ⟨oa2, oc2, hR⟩
  refine ⟨_, _, _, hR, ?_⟩
  try simp only [List.cons_append, List.nil_append, List.append_nil]
  refine JR_callp [] 17 #[.slice oa2 xs.length oc2] (some 38) (by kernel_rfl) (fun w S hG => ?_)
  refine (vweight (globs_of (hG.at 0 rfl)) (hG.at 3 rfl) (by omega)).mono ?_
  rintro e3 w3 (⟨h9, hR⟩ | ⟨h9, hR⟩)
  rotate_left
  · exact absurd h9 hx0
  refine ⟨_, _, _, hR, ?_⟩
  try simp only [List.cons_append, List.nil_append, List.append_nil]
  refine JR_run (id := 4) (rest := []) [.rd 3 [] 0 0, .rd 4 [] 0 0, .rd 5 [] 0 0, .rd 6 [] 0 0, .rd 7 [] 0 0] [0, 1, 2, 3, 8, 10, 11] (E1 := fun _ => [(0, .val (.slice a xs.length ca)), (1, .val (.int .i64 p)), (2, .val (.slice b ys.length cb)), (3, .val (.int .i64 q)), (8, .val (.bool false)), (10, .val (.int .i64 0)), (11, .val (.iface 94 (.pointer (some (er (vecErr xs))))))]) (h1 := fun _ => []) (p1 := fun _ => []) (W1 := []) (fun _ => by kernel_rfl) (fun _ => trivial) (fun _ => ?_)
  refine JR_end ?_
  refine J_seq ?_
  refine JR_begin mixed [(0, true), (1, false), (2, true), (3, true), (4, false), (5, true), (6, false), (7, true), (8, true), (9, true), (10, true), (11, true)] [] (by kernel_rfl) (by kernel_rfl) ?_
  refine JR_run (id := 5) (rest := [(1, false), (2, true), (3, true), (4, false), (5, true), (6, false), (7, true), (8, true), (9, true), (10, true), (11, true)]) [.rd 0 [] 0 0] [0, 1, 2, 3, 8, 10, 11, 42] (E1 := fun _ => [(0, .val (.slice a xs.length ca)), (1, .val (.int .i64 p)), (2, .val (.slice b ys.length cb)), (3, .val (.int .i64 q)), (8, .val (.bool false)), (10, .val (.int .i64 0)), (11, .val (.iface 94 (.pointer (some (er (vecErr xs)))))), (42, .val (.slice a xs.length ca))]) (h1 := fun _ => []) (p1 := fun _ => []) (W1 := []) (fun _ => by kernel_rfl) (fun _ => trivial) (fun _ => ?_)
  refine JR_callp [] 13 #[.slice a xs.length ca] (some 43) (by kernel_rfl) (fun w S hG => ?_)
  refine (vown (hG.at 1 rfl) (by omega)).mono ?_
  rintro e4 w4 ⟨oa4, oc4, hR⟩
  refine ⟨_, _, _, hR, ?_⟩
  try simp only [List.cons_append, List.nil_append, List.append_nil]
  refine JR_run (id := 5) (rest := [(4, false), (5, true), (6, false), (7, true), (8, true), (9, true), (10, true), (11, true)]) [.rd 2 [] 0 0, .rd 3 [] 0 0] [0, 1, 2, 3, 8, 10, 11, 43, 44, 45] (E1 := fun _ => [(0, .val (.slice a xs.length ca)), (1, .val (.int .i64 p)), (2, .val (.slice b ys.length cb)), (3, .val (.int .i64 q)), (8, .val (.bool false)), (10, .val (.int .i64 0)), (11, .val (.iface 94 (.pointer (some (er (vecErr xs)))))), (43, .val (.slice oa4 xs.length oc4)), (44, .val (.int .i64 p)), (45, .val (.slice b ys.length cb))]) (h1 := fun _ => []) (p1 := fun _ => []) (W1 := []) (fun _ => by kernel_rfl) (fun _ => trivial) (fun _ => ?_)
  refine JR_callp [] 13 #[.slice b ys.length cb] (some 46) (by kernel_rfl) (fun w S hG => ?_)
  refine (vown (hG.at 2 rfl) (by omega)).mono ?_
  rintro e5 w5 ⟨oa5, oc5, hR⟩
  refine ⟨_, _, _, hR, ?_⟩
  try simp only [List.cons_append, List.nil_append, List.append_nil]
  refine JR_run (id := 5) (rest := [(6, false), (7, true), (8, true), (9, true), (10, true), (11, true)]) [.rd 5 [] 0 0] [0, 1, 2, 3, 8, 10, 11, 43, 44, 46, 47] (E1 := fun _ => [(0, .val (.slice a xs.length ca)), (1, .val (.int .i64 p)), (2, .val (.slice b ys.length cb)), (3, .val (.int .i64 q)), (8, .val (.bool false)), (10, .val (.int .i64 0)), (11, .val (.iface 94 (.pointer (some (er (vecErr xs)))))), (43, .val (.slice oa4 xs.length oc4)), (44, .val (.int .i64 p)), (46, .val (.slice oa5 ys.length oc5)), (47, .val (.int .i64 q))]) (h1 := fun _ => []) (p1 := fun _ => []) (W1 := []) (fun _ => by kernel_rfl) (fun _ => trivial) (fun _ => ?_)
  refine JR_callp [] 26 #[.slice oa4 xs.length oc4, .int .i64 p, .slice oa5 ys.length oc5, .int .i64 q] (some 48) (by kernel_rfl) (fun w S hG => ?_)
  refine (vahead (globs_of (hG.at 0 rfl)) (hG.at 4 rfl) (hG.at 5 rfl) (by omega) (by omega)).mono ?_
  rintro e6 w6 (⟨h2, hR⟩ | ⟨h2, _⟩ | ⟨h2, _⟩)
  rotate_left
  · exact absurd h2 hab
  · exact absurd h2 hab
  refine ⟨_, _, _, hR, ?_⟩
  try simp only [List.cons_append, List.nil_append, List.append_nil]
  refine JR_run (id := 5) (rest := []) [.rd 7 [] 0 0, .rd 8 [] 0 0, .rd 9 [] 0 0, .rd 10 [] 0 0, .rd 11 [] 0 0] [0, 1, 2, 3, 8, 10, 11, 12, 13] (E1 := fun _ => [(0, .val (.slice a xs.length ca)), (1, .val (.int .i64 p)), (2, .val (.slice b ys.length cb)), (3, .val (.int .i64 q)), (8, .val (.bool false)), (10, .val (.int .i64 0)), (11, .val (.iface 94 (.pointer (some (er (vecErr xs)))))), (12, .val (.bool false)), (13, .val (.iface 94 (.pointer (some (er (twoErr xs ys))))))]) (h1 := fun _ => []) (p1 := fun _ => []) (W1 := []) (fun _ => by kernel_rfl) (fun _ => trivial) (fun _ => ?_)
  refine JR_end ?_
  refine J_seq ?_
  refine J_seq ?_
  refine JR_begin mixed [(0, true), (1, false), (2, true)] [] (by kernel_rfl) (by kernel_rfl) ?_
  refine JR_run (id := 6) (rest := [(1, false), (2, true)]) [.rd 0 [] 0 0] [0, 1, 2, 3, 8, 10, 11, 12, 13, 51] (E1 := fun _ => [(0, .val (.slice a xs.length ca)), (1, .val (.int .i64 p)), (2, .val (.slice b ys.length cb)), (3, .val (.int .i64 q)), (8, .val (.bool false)), (10, .val (.int .i64 0)), (11, .val (.iface 94 (.pointer (some (er (vecErr xs)))))), (12, .val (.bool false)), (13, .val (.iface 94 (.pointer (some (er (twoErr xs ys)))))), (51, .val (.slice a xs.length ca))]) (h1 := fun _ => []) (p1 := fun _ => []) (W1 := []) (fun _ => by kernel_rfl) (fun _ => trivial) (fun _ => ?_)
  refine JR_callp [] 22 #[.slice a xs.length ca] (some 52) (by kernel_rfl) (fun w S hG => ?_)
  refine (rVecErr (hG.at 1 rfl) (by omega)).mono ?_
  rintro e7 w7 hR
  refine ⟨_, _, _, hR, ?_⟩
  try simp only [List.cons_append, List.nil_append, List.append_nil]
  refine JR_run (id := 6) (rest := []) [.rd 2 [] 0 6] [0, 1, 2, 3, 8, 10, 11, 12, 13, 53] (E1 := fun _ => [(0, .val (.slice a xs.length ca)), (1, .val (.int .i64 p)), (2, .val (.slice b ys.length cb)), (3, .val (.int .i64 q)), (8, .val (.bool false)), (10, .val (.int .i64 0)), (11, .val (.iface 94 (.pointer (some (er (vecErr xs)))))), (12, .val (.bool false)), (13, .val (.iface 94 (.pointer (some (er (twoErr xs ys)))))), (53, .val (.bool true))]) (h1 := fun _ => []) (p1 := fun _ => [decide ((↑(vecErr xs) : Int) > (0 : Int)) = true]) (W1 := []) (fun _ => by kernel_rfl) (fun _ => ⟨by simp; omega, trivial⟩) (fun _ => ?_)
  refine JR_end ?_
  refine J_cond_t (by kernel_rfl) (by kernel_rfl) ?_
  refine J_seq ?_
  refine JR_begin mixed [(0, true), (1, true), (2, false), (3, false), (4, true), (5, true), (6, true), (7, true), (8, true)] [] (by kernel_rfl) (by kernel_rfl) ?_
  refine JR_run (id := 7) (rest := [(2, false), (3, false), (4, true), (5, true), (6, true), (7, true), (8, true)]) [.rd 0 [] 0 0, .rd 1 [] 0 0] [0, 1, 2, 3, 8, 10, 12, 13, 54, 55] (E1 := fun _ => [(0, .val (.slice a xs.length ca)), (1, .val (.int .i64 p)), (2, .val (.slice b ys.length cb)), (3, .val (.int .i64 q)), (8, .val (.bool false)), (10, .val (.int .i64 0)), (12, .val (.bool false)), (13, .val (.iface 94 (.pointer (some (er (twoErr xs ys)))))), (54, .val (.iface 94 (.pointer (some (er (vecErr xs)))))), (55, .val (.slice a xs.length ca))]) (h1 := fun _ => []) (p1 := fun _ => []) (W1 := []) (fun _ => by kernel_rfl) (fun _ => trivial) (fun _ => ?_)
  refine JR_callp [] 22 #[.slice a xs.length ca] (some 56) (by kernel_rfl) (fun w S hG => ?_)
  refine (rVecErr (hG.at 1 rfl) (by omega)).mono ?_
  rintro e8 w8 hR
  refine ⟨_, _, _, hR, ?_⟩
  try simp only [List.cons_append, List.nil_append, List.append_nil]
  refine JR_callp [] 20 #[.iface 94 (.pointer (some (er (vecErr xs)))), .int .i64 ((↑(vecErr xs) : Int))] (some 57) (by kernel_rfl) (fun w S hG => ?_)
  refine (codedErr (hG.at 0 rfl) hI (k := vecErr xs) (by have := vecErr_le xs; omega) (.inr ⟨hx0, rfl⟩)).mono ?_
  rintro e9 w9 hR
  rw [decide_eq_true rfl] at hR
  refine ⟨_, _, _, hR, ?_⟩
  try simp only [List.cons_append, List.nil_append, List.append_nil]
  refine JR_run (id := 7) (rest := []) [.rd 4 [] 0 0, .rd 5 [] 0 0, .rd 6 [] 0 0, .rd 7 [] 0 0, .rd 8 [] 0 0] [0, 1, 2, 3, 8, 12, 13, 62] (E1 := fun _ => [(0, .val (.slice a xs.length ca)), (1, .val (.int .i64 p)), (2, .val (.slice b ys.length cb)), (3, .val (.int .i64 q)), (8, .val (.bool false)), (12, .val (.bool false)), (13, .val (.iface 94 (.pointer (some (er (twoErr xs ys)))))), (62, .val (.bool false))]) (h1 := fun _ => []) (p1 := fun _ => []) (W1 := []) (fun _ => by kernel_rfl) (fun _ => trivial) (fun _ => ?_)
  refine JR_end ?_
  refine J_cond_f (by kernel_rfl) (by kernel_rfl) ?_
  refine J_skip ?_
  refine J_seq ?_
  refine JR_begin mixed [(0, true), (1, true), (2, false), (3, true)] [] (by kernel_rfl) (by kernel_rfl) ?_
  refine JR_run (id := 11) (rest := [(2, false), (3, true)]) [.rd 0 [] 0 0, .rd 1 [] 0 0] [0, 1, 2, 3, 8, 12, 13, 71, 72] (E1 := fun _ => [(0, .val (.slice a xs.length ca)), (1, .val (.int .i64 p)), (2, .val (.slice b ys.length cb)), (3, .val (.int .i64 q)), (8, .val (.bool false)), (12, .val (.bool false)), (13, .val (.iface 94 (.pointer (some (er (twoErr xs ys)))))), (71, .val (.slice a xs.length ca)), (72, .val (.slice b ys.length cb))]) (h1 := fun _ => []) (p1 := fun _ => []) (W1 := []) (fun _ => by kernel_rfl) (fun _ => trivial) (fun _ => ?_)
  refine JR_callp [] 19 #[.slice a xs.length ca, .slice b ys.length cb] (some 73) (by kernel_rfl) (fun w S hG => ?_)
  refine (rTwoErr (hG.at 1 rfl) (hG.at 2 rfl) (by omega) (by omega)).mono ?_
  rintro e10 w10 hR
  refine ⟨_, _, _, hR, ?_⟩
  try simp only [List.cons_append, List.nil_append, List.append_nil]
  refine JR_run (id := 11) (rest := []) [.rd 3 [] 0 0] [0, 1, 2, 3, 8, 12, 13, 14] (E1 := fun _ => [(0, .val (.slice a xs.length ca)), (1, .val (.int .i64 p)), (2, .val (.slice b ys.length cb)), (3, .val (.int .i64 q)), (8, .val (.bool false)), (12, .val (.bool false)), (13, .val (.iface 94 (.pointer (some (er (twoErr xs ys)))))), (14, .val (.int .i64 ((↑(twoErr xs ys) : Int))))]) (h1 := fun _ => []) (p1 := fun _ => []) (W1 := []) (fun _ => by kernel_rfl) (fun _ => trivial) (fun _ => ?_)
  refine JR_end ?_
  refine J_seq ?_
  refine J_seq ?_
  refine J_reg mixed [.rd 0 [] 0 0, .rd 1 [] 0 7, .rd 2 [] 0 0, .rd 3 [] 1 0, .rd 4 [] 1 0, .rd 5 [] 1 0, .rd 6 [] 1 0, .rd 7 [] 1 0, .rd 8 [] 1 0, .rd 9 [] 1 0, .rd 10 [] 1 0, .rd 11 [] 1 0, .rd 12 [] 1 0, .rd 13 [] 1 0, .rd 14 [] 1 0, .rd 15 [] 1 0, .rd 16 [] 1 0, .rd 17 [] 1 0, .rd 18 [] 1 0, .rd 19 [] 1 0, .rd 20 [] 1 0, .rd 21 [] 0 0] [] [0, 1, 2, 3, 8, 12, 13, 14, 95] (E1 := fun _ => [(0, .val (.slice a xs.length ca)), (1, .val (.int .i64 p)), (2, .val (.slice b ys.length cb)), (3, .val (.int .i64 q)), (8, .val (.bool false)), (12, .val (.bool false)), (13, .val (.iface 94 (.pointer (some (er (twoErr xs ys)))))), (14, .val (.int .i64 ((↑(twoErr xs ys) : Int)))), (95, .val (.bool false))]) (h1 := fun _ => []) (p1 := fun _ => [((↑(twoErr xs ys) : Int) == (0 : Int)) = false]) (W1 := []) (by kernel_rfl) (fun _ => by kernel_rfl) (fun _ => ⟨by simp; omega, trivial⟩) (fun _ => ?_)
  refine J_cond_f (by kernel_rfl) (by kernel_rfl) ?_
  refine J_skip ?_
  refine J_seq ?_
  refine J_seq ?_
  refine J_reg mixed [.rd 0 [] 0 0, .rd 1 [] 0 6] [] [0, 1, 2, 3, 8, 12, 13, 14, 97] (E1 := fun _ => [(0, .val (.slice a xs.length ca)), (1, .val (.int .i64 p)), (2, .val (.slice b ys.length cb)), (3, .val (.int .i64 q)), (8, .val (.bool false)), (12, .val (.bool false)), (13, .val (.iface 94 (.pointer (some (er (twoErr xs ys)))))), (14, .val (.int .i64 ((↑(twoErr xs ys) : Int)))), (97, .val (.bool true))]) (h1 := fun _ => []) (p1 := fun _ => [decide ((↑(twoErr xs ys) : Int) > (0 : Int)) = true]) (W1 := []) (by kernel_rfl) (fun _ => by kernel_rfl) (fun _ => ⟨by simp; omega, trivial⟩) (fun _ => ?_)
  refine J_cond_t (by kernel_rfl) (by kernel_rfl) ?_
  refine J_seq ?_
  refine JR_begin mixed [(0, true), (1, true), (2, false), (3, true), (4, true), (5, true), (6, true), (7, true)] [] (by kernel_rfl) (by kernel_rfl) ?_
  refine JR_run (id := 15) (rest := [(2, false), (3, true), (4, true), (5, true), (6, true), (7, true)]) [.rd 0 [] 0 0, .rd 1 [] 0 0] [0, 1, 2, 3, 8, 12, 13, 98, 99] (E1 := fun _ => [(0, .val (.slice a xs.length ca)), (1, .val (.int .i64 p)), (2, .val (.slice b ys.length cb)), (3, .val (.int .i64 q)), (8, .val (.bool false)), (12, .val (.bool false)), (13, .val (.iface 94 (.pointer (some (er (twoErr xs ys)))))), (98, .val (.iface 94 (.pointer (some (er (twoErr xs ys)))))), (99, .val (.int .i64 ((↑(twoErr xs ys) : Int))))]) (h1 := fun _ => []) (p1 := fun _ => []) (W1 := []) (fun _ => by kernel_rfl) (fun _ => trivial) (fun _ => ?_)
  refine JR_callp [] 20 #[.iface 94 (.pointer (some (er (twoErr xs ys)))), .int .i64 ((↑(twoErr xs ys) : Int))] (some 100) (by kernel_rfl) (fun w S hG => ?_)
  refine (codedErr (hG.at 0 rfl) hI (k := twoErr xs ys) (by have := twoErr_le xs ys; omega) (.inr ⟨hab, rfl⟩)).mono ?_
  rintro e11 w11 hR
  rw [decide_eq_true rfl] at hR
  refine ⟨_, _, _, hR, ?_⟩
  try simp only [List.cons_append, List.nil_append, List.append_nil]
  refine JR_run (id := 15) (rest := []) [.rd 3 [] 0 0, .rd 4 [] 0 0, .rd 5 [] 0 0, .rd 6 [] 0 0, .rd 7 [] 0 0] [0, 1, 2, 3, 8, 12, 13] (E1 := fun _ => [(0, .val (.slice a xs.length ca)), (1, .val (.int .i64 p)), (2, .val (.slice b ys.length cb)), (3, .val (.int .i64 q)), (8, .val (.bool true)), (12, .val (.bool false)), (13, .val (.iface 94 (.pointer (some (er (twoErr xs ys))))))]) (h1 := fun _ => []) (p1 := fun _ => []) (W1 := []) (fun _ => by kernel_rfl) (fun _ => trivial) (fun _ => ?_)
  refine JR_end ?_
  refine J_return [[]] (.bool true) (by kernel_rfl) (fun a w s => ?_)
  exact s.ret (by simp) [] [] rfl rfl

set_option maxHeartbeats 16000000 in
theorem vaheadB1 {w : World} {S : Nat → Prop} {er : Nat → Addr} {eb : Nat → Array Value × TypeId} {a b : Option Addr} {n m ca cb : Nat} {xs ys : List Int} {p q : Int} (hC : Rep w S .nilIface (dC er eb)) (hI : Inj er) (ha : Rep w S (.slice a n ca) (dInts xs)) (hb : Rep w S (.slice b m cb) (dInts ys)) (hab : twoErr xs ys = 0) (hbnd : p < 0 ∨ xs.length ≤ p ∨ q < 0 ∨ xs.length ≤ q) :
    Calls Tryd.prog 6 #[.slice a n ca, .int .i64 p, .slice b m cb, .int .i64 q] w fun e w' => Ret [] w S w' e (.bool true) [] [] := by
  obtain rfl := rep_ints_len ha
  obtain rfl := rep_ints_len hb
  refine ep6 (args := [.slice a xs.length ca, .int .i64 p, .slice b ys.length cb, .int .i64 q]) (G := [(_, dC er eb), (_, dInts xs), (_, dInts ys)]) (by kernel_rfl) (.cons hC (.cons ha (.cons hb (.nil _ _)))) ?_
  refine J_seq ?_
  refine J_reg mixed [.rd 0 [] 0 0] [] [0, 1, 2, 3, 8] (E1 := fun _ => [(0, .val (.slice a xs.length ca)), (1, .val (.int .i64 p)), (2, .val (.slice b ys.length cb)), (3, .val (.int .i64 q)), (8, .val (.bool false))]) (h1 := fun _ => []) (p1 := fun _ => []) (W1 := []) (by kernel_rfl) (fun _ => by kernel_rfl) (fun _ => trivial) (fun _ => ?_)
  refine J_seq ?_
  refine JR_begin mixed [(0, false), (1, true)] [] (by kernel_rfl) (by kernel_rfl) ?_
  refine JR_callp [] 11 #[] (some 21) (by kernel_rfl) (fun w S hG => ?_)
  refine (vtimed (globs_of (hG.at 0 rfl))).mono ?_
  rintro e1 w1 hR
  refine ⟨_, _, _, hR, ?_⟩
  try simp only [List.cons_append, List.nil_append, List.append_nil]
  refine JR_run (id := 1) (rest := []) [.rd 1 [] 0 0] [0, 1, 2, 3, 8, 9] (E1 := fun _ => [(0, .val (.slice a xs.length ca)), (1, .val (.int .i64 p)), (2, .val (.slice b ys.length cb)), (3, .val (.int .i64 q)), (8, .val (.bool false)), (9, .val (.bool true))]) (h1 := fun _ => []) (p1 := fun _ => []) (W1 := []) (fun _ => by kernel_rfl) (fun _ => trivial) (fun _ => ?_)
  refine JR_end ?_
  refine J_seq ?_
  refine J_seq ?_
  refine J_reg mixed [.rd 0 [] 0 0, .rd 1 [] 0 0, .rd 2 [] 0 0, .rd 3 [] 0 0, .rd 4 [] 0 0, .rd 5 [] 0 0, .rd 6 [] 0 0, .rd 7 [] 0 0, .rd 8 [] 2 0, .rd 9 [] 2 0, .rd 10 [] 2 0, .rd 11 [] 0 3] [] [0, 1, 2, 3, 8, 9, 33] (E1 := fun _ => [(0, .val (.slice a xs.length ca)), (1, .val (.int .i64 p)), (2, .val (.slice b ys.length cb)), (3, .val (.int .i64 q)), (8, .val (.bool false)), (9, .val (.bool true)), (33, .val (.bool (decide ((↑xs.length : Int) > 20) || decide ((↑ys.length : Int) > 20))))]) (h1 := fun _ => []) (p1 := fun _ => []) (W1 := []) (by kernel_rfl) (fun _ => by kernel_rfl) (fun _ => trivial) (fun _ => ?_)
  refine J_cond (t := decide ((↑xs.length : Int) > 20) || decide ((↑ys.length : Int) > 20)) (by kernel_rfl) (by kernel_rfl) (fun hbad => ?_) (fun hbad => ?_)
  · refine J_seq ?_
    refine J_reg mixed [.rd 0 [] 0 0, .rd 1 [] 0 0] [] [0, 1, 2, 3, 8] (E1 := fun _ => [(0, .val (.slice a xs.length ca)), (1, .val (.int .i64 p)), (2, .val (.slice b ys.length cb)), (3, .val (.int .i64 q)), (8, .val (.bool true))]) (h1 := fun _ => []) (p1 := fun _ => []) (W1 := []) (by kernel_rfl) (fun _ => by kernel_rfl) (fun _ => trivial) (fun _ => ?_)
    refine J_return [[]] (.bool true) (by kernel_rfl) (fun a w s => ?_)
    exact s.ret (by simp) [] [] rfl rfl
  obtain ⟨hl1, hl2⟩ : xs.length ≤ 20 ∧ ys.length ≤ 20 := by simp at hbad; omega
  refine J_skip ?_
  refine J_seq ?_
  refine JR_begin mixed [(0, true), (1, false), (2, false), (3, true), (4, true), (5, true), (6, true), (7, true)] [] (by kernel_rfl) (by kernel_rfl) ?_
  refine JR_run (id := 4) (rest := [(1, false), (2, false), (3, true), (4, true), (5, true), (6, true), (7, true)]) [.rd 0 [] 0 0] [0, 1, 2, 3, 8, 36] (E1 := fun _ => [(0, .val (.slice a xs.length ca)), (1, .val (.int .i64 p)), (2, .val (.slice b ys.length cb)), (3, .val (.int .i64 q)), (8, .val (.bool false)), (36, .val (.slice a xs.length ca))]) (h1 := fun _ => []) (p1 := fun _ => []) (W1 := []) (fun _ => by kernel_rfl) (fun _ => trivial) (fun _ => ?_)
  obtain ⟨hx0, hy0, hxy⟩ := twoErr_fine hab
  refine JR_callp [] 13 #[.slice a xs.length ca] (some 37) (by kernel_rfl) (fun w S hG => ?_)
  refine (vown (hG.at 1 rfl) (by omega)).mono ?_
  rintro e2 w2 ⟨oa2, oc2, hR⟩
  refine ⟨_, _, _, hR, ?_⟩
  try simp only [List.cons_append, List.nil_append, List.append_nil]
  refine JR_callp [] 17 #[.slice oa2 xs.length oc2] (some 38) (by kernel_rfl) (fun w S hG => ?_)
  refine (vweight (globs_of (hG.at 0 rfl)) (hG.at 3 rfl) (by omega)).mono ?_
  rintro e3 w3 (⟨h9, hR⟩ | ⟨h9, hR⟩)
  · exact absurd hx0 h9
  refine ⟨_, _, _, hR, ?_⟩
  try simp only [List.cons_append, List.nil_append, List.append_nil]
  refine JR_run (id := 4) (rest := []) [.rd 3 [] 0 0, .rd 4 [] 0 0, .rd 5 [] 0 0, .rd 6 [] 0 0, .rd 7 [] 0 0] [0, 1, 2, 3, 8, 10, 11] (E1 := fun _ => [(0, .val (.slice a xs.length ca)), (1, .val (.int .i64 p)), (2, .val (.slice b ys.length cb)), (3, .val (.int .i64 q)), (8, .val (.bool false)), (10, .val (.int .i64 (sumL xs))), (11, .val (.nilIface))]) (h1 := fun _ => []) (p1 := fun _ => []) (W1 := []) (fun _ => by kernel_rfl) (fun _ => trivial) (fun _ => ?_)
  refine JR_end ?_
  refine J_seq ?_
  refine JR_begin mixed [(0, true), (1, false), (2, true), (3, true), (4, false), (5, true), (6, false), (7, true), (8, true), (9, true), (10, true), (11, true)] [] (by kernel_rfl) (by kernel_rfl) ?_
  refine JR_run (id := 5) (rest := [(1, false), (2, true), (3, true), (4, false), (5, true), (6, false), (7, true), (8, true), (9, true), (10, true), (11, true)]) [.rd 0 [] 0 0] [0, 1, 2, 3, 8, 10, 11, 42] (E1 := fun _ => [(0, .val (.slice a xs.length ca)), (1, .val (.int .i64 p)), (2, .val (.slice b ys.length cb)), (3, .val (.int .i64 q)), (8, .val (.bool false)), (10, .val (.int .i64 (sumL xs))), (11, .val (.nilIface)), (42, .val (.slice a xs.length ca))]) (h1 := fun _ => []) (p1 := fun _ => []) (W1 := []) (fun _ => by kernel_rfl) (fun _ => trivial) (fun _ => ?_)
  refine JR_callp [] 13 #[.slice a xs.length ca] (some 43) (by kernel_rfl) (fun w S hG => ?_)
  refine (vown (hG.at 1 rfl) (by omega)).mono ?_
  rintro e4 w4 ⟨oa4, oc4, hR⟩
  refine ⟨_, _, _, hR, ?_⟩
  try simp only [List.cons_append, List.nil_append, List.append_nil]
  refine JR_run (id := 5) (rest := [(4, false), (5, true), (6, false), (7, true), (8, true), (9, true), (10, true), (11, true)]) [.rd 2 [] 0 0, .rd 3 [] 0 0] [0, 1, 2, 3, 8, 10, 11, 43, 44, 45] (E1 := fun _ => [(0, .val (.slice a xs.length ca)), (1, .val (.int .i64 p)), (2, .val (.slice b ys.length cb)), (3, .val (.int .i64 q)), (8, .val (.bool false)), (10, .val (.int .i64 (sumL xs))), (11, .val (.nilIface)), (43, .val (.slice oa4 xs.length oc4)), (44, .val (.int .i64 p)), (45, .val (.slice b ys.length cb))]) (h1 := fun _ => []) (p1 := fun _ => []) (W1 := []) (fun _ => by kernel_rfl) (fun _ => trivial) (fun _ => ?_)
  refine JR_callp [] 13 #[.slice b ys.length cb] (some 46) (by kernel_rfl) (fun w S hG => ?_)
  refine (vown (hG.at 2 rfl) (by omega)).mono ?_
  rintro e5 w5 ⟨oa5, oc5, hR⟩
  refine ⟨_, _, _, hR, ?_⟩
  try simp only [List.cons_append, List.nil_append, List.append_nil]
  refine JR_run (id := 5) (rest := [(6, false), (7, true), (8, true), (9, true), (10, true), (11, true)]) [.rd 5 [] 0 0] [0, 1, 2, 3, 8, 10, 11, 43, 44, 46, 47] (E1 := fun _ => [(0, .val (.slice a xs.length ca)), (1, .val (.int .i64 p)), (2, .val (.slice b ys.length cb)), (3, .val (.int .i64 q)), (8, .val (.bool false)), (10, .val (.int .i64 (sumL xs))), (11, .val (.nilIface)), (43, .val (.slice oa4 xs.length oc4)), (44, .val (.int .i64 p)), (46, .val (.slice oa5 ys.length oc5)), (47, .val (.int .i64 q))]) (h1 := fun _ => []) (p1 := fun _ => []) (W1 := []) (fun _ => by kernel_rfl) (fun _ => trivial) (fun _ => ?_)
  refine JR_callp [] 26 #[.slice oa4 xs.length oc4, .int .i64 p, .slice oa5 ys.length oc5, .int .i64 q] (some 48) (by kernel_rfl) (fun w S hG => ?_)
  refine (vahead (globs_of (hG.at 0 rfl)) (hG.at 4 rfl) (hG.at 5 rfl) (by omega) (by omega)).mono ?_
  rintro e6 w6 (⟨h2, hR⟩ | ⟨h2, _, hR⟩ | ⟨h2, hp0, hp1, hq0, hq1, _⟩)
  · exact absurd hab h2
  rotate_left
  · omega
  refine ⟨_, _, _, hR, ?_⟩
  try simp only [List.cons_append, List.nil_append, List.append_nil]
  refine JR_run (id := 5) (rest := []) [.rd 7 [] 0 0, .rd 8 [] 0 0, .rd 9 [] 0 0, .rd 10 [] 0 0, .rd 11 [] 0 0] [0, 1, 2, 3, 8, 10, 11, 12, 13] (E1 := fun _ => [(0, .val (.slice a xs.length ca)), (1, .val (.int .i64 p)), (2, .val (.slice b ys.length cb)), (3, .val (.int .i64 q)), (8, .val (.bool false)), (10, .val (.int .i64 (sumL xs))), (11, .val (.nilIface)), (12, .val (.bool false)), (13, .val (.iface 94 (.pointer (some (er 2)))))]) (h1 := fun _ => []) (p1 := fun _ => []) (W1 := []) (fun _ => by kernel_rfl) (fun _ => trivial) (fun _ => ?_)
  refine JR_end ?_
  refine J_seq ?_
  refine J_seq ?_
  refine JR_begin mixed [(0, true), (1, false), (2, true)] [] (by kernel_rfl) (by kernel_rfl) ?_
  refine JR_run (id := 6) (rest := [(1, false), (2, true)]) [.rd 0 [] 0 0] [0, 1, 2, 3, 8, 10, 11, 12, 13, 51] (E1 := fun _ => [(0, .val (.slice a xs.length ca)), (1, .val (.int .i64 p)), (2, .val (.slice b ys.length cb)), (3, .val (.int .i64 q)), (8, .val (.bool false)), (10, .val (.int .i64 (sumL xs))), (11, .val (.nilIface)), (12, .val (.bool false)), (13, .val (.iface 94 (.pointer (some (er 2))))), (51, .val (.slice a xs.length ca))]) (h1 := fun _ => []) (p1 := fun _ => []) (W1 := []) (fun _ => by kernel_rfl) (fun _ => trivial) (fun _ => ?_)
  refine JR_callp [] 22 #[.slice a xs.length ca] (some 52) (by kernel_rfl) (fun w S hG => ?_)
  refine (rVecErr (hG.at 1 rfl) (by omega)).mono ?_
  rintro e7 w7 hR
  rw [hx0] at hR
  refine ⟨_, _, _, hR, ?_⟩
  try simp only [List.cons_append, List.nil_append, List.append_nil]
  refine JR_run (id := 6) (rest := []) [.rd 2 [] 0 0] [0, 1, 2, 3, 8, 10, 11, 12, 13, 53] (E1 := fun _ => [(0, .val (.slice a xs.length ca)), (1, .val (.int .i64 p)), (2, .val (.slice b ys.length cb)), (3, .val (.int .i64 q)), (8, .val (.bool false)), (10, .val (.int .i64 (sumL xs))), (11, .val (.nilIface)), (12, .val (.bool false)), (13, .val (.iface 94 (.pointer (some (er 2))))), (53, .val (.bool false))]) (h1 := fun _ => []) (p1 := fun _ => []) (W1 := []) (fun _ => by kernel_rfl) (fun _ => trivial) (fun _ => ?_)
  refine JR_end ?_
  refine J_cond_f (by kernel_rfl) (by kernel_rfl) ?_
  refine J_seq ?_
  refine JR_begin mixed [(0, true), (1, true), (2, true), (3, true), (4, true), (5, false), (6, true), (7, true)] [] (by kernel_rfl) (by kernel_rfl) ?_
  refine JR_run (id := 9) (rest := [(5, false), (6, true), (7, true)]) [.rd 0 [] 0 0, .rd 1 [] 0 0, .rd 2 [] 0 0, .rd 3 [] 0 0, .rd 4 [] 0 0] [0, 1, 2, 3, 8, 12, 13, 65, 66, 67] (E1 := fun _ => [(0, .val (.slice a xs.length ca)), (1, .val (.int .i64 p)), (2, .val (.slice b ys.length cb)), (3, .val (.int .i64 q)), (8, .val (.bool false)), (12, .val (.bool false)), (13, .val (.iface 94 (.pointer (some (er 2))))), (65, .val (.bool false)), (66, .val (.int .i64 (sumL xs))), (67, .val (.slice a xs.length ca))]) (h1 := fun _ => []) (p1 := fun _ => []) (W1 := []) (fun _ => by kernel_rfl) (fun _ => trivial) (fun _ => ?_)
  refine JR_callp [] 27 #[.slice a xs.length ca] (some 68) (by kernel_rfl) (fun w S hG => ?_)
  refine (rWeight (hG.at 1 rfl) hx0).mono ?_
  rintro e8 w8 hR
  refine ⟨_, _, _, hR, ?_⟩
  try simp only [List.cons_append, List.nil_append, List.append_nil]
  refine JR_run (id := 9) (rest := []) [.rd 6 [] 0 7, .rd 7 [] 0 0] [0, 1, 2, 3, 8, 12, 13, 70] (E1 := fun _ => [(0, .val (.slice a xs.length ca)), (1, .val (.int .i64 p)), (2, .val (.slice b ys.length cb)), (3, .val (.int .i64 q)), (8, .val (.bool false)), (12, .val (.bool false)), (13, .val (.iface 94 (.pointer (some (er 2))))), (70, .val (.bool false))]) (h1 := fun _ => []) (p1 := fun _ => [(sumL xs != sumL xs) = false]) (W1 := []) (fun _ => by kernel_rfl) (fun _ => ⟨by simp, trivial⟩) (fun _ => ?_)
  refine JR_end ?_
  refine J_cond_f (by kernel_rfl) (by kernel_rfl) ?_
  refine J_skip ?_
  refine J_seq ?_
  refine JR_begin mixed [(0, true), (1, true), (2, false), (3, true)] [] (by kernel_rfl) (by kernel_rfl) ?_
  refine JR_run (id := 11) (rest := [(2, false), (3, true)]) [.rd 0 [] 0 0, .rd 1 [] 0 0] [0, 1, 2, 3, 8, 12, 13, 71, 72] (E1 := fun _ => [(0, .val (.slice a xs.length ca)), (1, .val (.int .i64 p)), (2, .val (.slice b ys.length cb)), (3, .val (.int .i64 q)), (8, .val (.bool false)), (12, .val (.bool false)), (13, .val (.iface 94 (.pointer (some (er 2))))), (71, .val (.slice a xs.length ca)), (72, .val (.slice b ys.length cb))]) (h1 := fun _ => []) (p1 := fun _ => []) (W1 := []) (fun _ => by kernel_rfl) (fun _ => trivial) (fun _ => ?_)
  refine JR_callp [] 19 #[.slice a xs.length ca, .slice b ys.length cb] (some 73) (by kernel_rfl) (fun w S hG => ?_)
  refine (rTwoErr (hG.at 1 rfl) (hG.at 2 rfl) (by omega) (by omega)).mono ?_
  rintro e9 w9 hR
  rw [hab] at hR
  refine ⟨_, _, _, hR, ?_⟩
  try simp only [List.cons_append, List.nil_append, List.append_nil]
  refine JR_run (id := 11) (rest := []) [.rd 3 [] 0 0] [0, 1, 2, 3, 8, 12, 13, 14] (E1 := fun _ => [(0, .val (.slice a xs.length ca)), (1, .val (.int .i64 p)), (2, .val (.slice b ys.length cb)), (3, .val (.int .i64 q)), (8, .val (.bool false)), (12, .val (.bool false)), (13, .val (.iface 94 (.pointer (some (er 2))))), (14, .val (.int .i64 0))]) (h1 := fun _ => []) (p1 := fun _ => []) (W1 := []) (fun _ => by kernel_rfl) (fun _ => trivial) (fun _ => ?_)
  refine JR_end ?_
  refine J_seq ?_
  refine J_seq ?_
  refine J_reg mixed [.rd 0 [] 0 0, .rd 1 [] 0 0, .rd 2 [] 0 0, .rd 3 [] 0 0, .rd 4 [] 0 0, .rd 5 [] 0 0, .rd 6 [] 2 0, .rd 7 [] 2 0, .rd 8 [] 2 0, .rd 9 [] 2 0, .rd 10 [] 0 3, .rd 11 [] 0 0, .rd 12 [] 2 0, .rd 13 [] 2 0, .rd 14 [] 0 3, .rd 15 [] 0 0, .rd 16 [] 2 0, .rd 17 [] 2 0, .rd 18 [] 2 0, .rd 19 [] 2 0, .rd 20 [] 0 3, .rd 21 [] 0 0] [] [0, 1, 2, 3, 8, 12, 13, 14, 95] (E1 := fun _ => [(0, .val (.slice a xs.length ca)), (1, .val (.int .i64 p)), (2, .val (.slice b ys.length cb)), (3, .val (.int .i64 q)), (8, .val (.bool false)), (12, .val (.bool false)), (13, .val (.iface 94 (.pointer (some (er 2))))), (14, .val (.int .i64 0)), (95, .val (.bool (decide (p < 0) || decide (p ≥ (↑xs.length : Int)) || decide (q < 0) || decide (q ≥ (↑xs.length : Int)))))]) (h1 := fun _ => []) (p1 := fun _ => []) (W1 := []) (by kernel_rfl) (fun _ => by kernel_rfl) (fun _ => trivial) (fun _ => ?_)
  refine J_condT (decide (p < 0) || decide (p ≥ (↑xs.length : Int)) || decide (q < 0) || decide (q ≥ (↑xs.length : Int))) (by kernel_rfl) (by kernel_rfl) (by simp; omega) ?_
  refine J_reg mixed [.rd 0 [] 0 0] [] [0, 1, 2, 3, 8, 12, 13, 14] (E1 := fun _ => [(0, .val (.slice a xs.length ca)), (1, .val (.int .i64 p)), (2, .val (.slice b ys.length cb)), (3, .val (.int .i64 q)), (8, .val (.bool false)), (12, .val (.bool false)), (13, .val (.iface 94 (.pointer (some (er 2))))), (14, .val (.int .i64 2))]) (h1 := fun _ => []) (p1 := fun _ => []) (W1 := []) (by kernel_rfl) (fun _ => by kernel_rfl) (fun _ => trivial) (fun _ => ?_)
  refine J_seq ?_
  refine J_seq ?_
  refine J_reg mixed [.rd 0 [] 0 0, .rd 1 [] 0 0] [] [0, 1, 2, 3, 8, 12, 13, 14, 97] (E1 := fun _ => [(0, .val (.slice a xs.length ca)), (1, .val (.int .i64 p)), (2, .val (.slice b ys.length cb)), (3, .val (.int .i64 q)), (8, .val (.bool false)), (12, .val (.bool false)), (13, .val (.iface 94 (.pointer (some (er 2))))), (14, .val (.int .i64 2)), (97, .val (.bool true))]) (h1 := fun _ => []) (p1 := fun _ => []) (W1 := []) (by kernel_rfl) (fun _ => by kernel_rfl) (fun _ => trivial) (fun _ => ?_)
  refine J_cond_t (by kernel_rfl) (by kernel_rfl) ?_
  refine J_seq ?_
  refine JR_begin mixed [(0, true), (1, true), (2, false), (3, true), (4, true), (5, true), (6, true), (7, true)] [] (by kernel_rfl) (by kernel_rfl) ?_
  refine JR_run (id := 15) (rest := [(2, false), (3, true), (4, true), (5, true), (6, true), (7, true)]) [.rd 0 [] 0 0, .rd 1 [] 0 0] [0, 1, 2, 3, 8, 12, 13, 98, 99] (E1 := fun _ => [(0, .val (.slice a xs.length ca)), (1, .val (.int .i64 p)), (2, .val (.slice b ys.length cb)), (3, .val (.int .i64 q)), (8, .val (.bool false)), (12, .val (.bool false)), (13, .val (.iface 94 (.pointer (some (er 2))))), (98, .val (.iface 94 (.pointer (some (er 2))))), (99, .val (.int .i64 2))]) (h1 := fun _ => []) (p1 := fun _ => []) (W1 := []) (fun _ => by kernel_rfl) (fun _ => trivial) (fun _ => ?_)
  refine JR_callp [] 20 #[.iface 94 (.pointer (some (er 2))), .int .i64 2] (some 100) (by kernel_rfl) (fun w S hG => ?_)
  refine (codedErr (hG.at 0 rfl) hI (k := 2) (by omega) (.inr ⟨by decide, rfl⟩)).mono ?_
  rintro e10 w10 hR
  rw [decide_eq_true (show ((2 : Nat) : Int) = 2 from rfl)] at hR
  refine ⟨_, _, _, hR, ?_⟩
  try simp only [List.cons_append, List.nil_append, List.append_nil]
  refine JR_run (id := 15) (rest := []) [.rd 3 [] 0 0, .rd 4 [] 0 0, .rd 5 [] 0 0, .rd 6 [] 0 0, .rd 7 [] 0 0] [0, 1, 2, 3, 8, 12, 13] (E1 := fun _ => [(0, .val (.slice a xs.length ca)), (1, .val (.int .i64 p)), (2, .val (.slice b ys.length cb)), (3, .val (.int .i64 q)), (8, .val (.bool true)), (12, .val (.bool false)), (13, .val (.iface 94 (.pointer (some (er 2)))))]) (h1 := fun _ => []) (p1 := fun _ => []) (W1 := []) (fun _ => by kernel_rfl) (fun _ => trivial) (fun _ => ?_)
  refine JR_end ?_
  refine J_return [[]] (.bool true) (by kernel_rfl) (fun a w s => ?_)
  exact s.ret (by simp) [] [] rfl rfl
end Go.Proofs.YtibkfmobofikmaaDoor
