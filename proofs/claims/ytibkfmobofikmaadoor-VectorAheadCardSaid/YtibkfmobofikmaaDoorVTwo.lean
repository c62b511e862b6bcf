/- VectorTwo, walked. -/
import Derived.Test.YtibkfmobofikmaaDoorRefs
import Derived.Test.YtibkfmobofikmaaDoorCode
import Derived.Test.YtibkfmobofikmaaDoorTimed
import Derived.Test.YtibkfmobofikmaaDoorSame
namespace Go.Proofs.YtibkfmobofikmaaDoor
open Go Go.Sx

theorem vecErr_le (xs : List Int) : vecErr xs ≤ 3 := by
  unfold vecErr
  split
  · omega
  · split <;> omega
theorem twoErr_le (xs ys : List Int) : twoErr xs ys ≤ 3 := by
  unfold twoErr
  have h1 := vecErr_le xs
  have h2 := vecErr_le ys
  split
  · exact h1
  · split
    · exact h2
    · split <;> omega

set_option maxHeartbeats 8000000 in
theorem vtwolaw {w : World} {S : Nat → Prop} {er : Nat → Addr} {eb : Nat → Array Value × TypeId} {a b : Option Addr} {n m ca cb : Nat} {xs ys : List Int} (hC : Rep w S .nilIface (dC er eb)) (hI : Inj er) (ha : Rep w S (.slice a n ca) (dInts xs)) (hb : Rep w S (.slice b m cb) (dInts ys)) :
    Calls Tryd.prog 5 #[.slice a n ca, .slice b m cb] w fun e w' => Ret [] w S w' e (.bool true) [] [] := by
  obtain rfl := rep_ints_len ha
  obtain rfl := rep_ints_len hb
  refine ep5 (args := [.slice a xs.length ca, .slice b ys.length cb]) (G := [(_, dC er eb), (_, dInts xs), (_, dInts ys)]) (by kernel_rfl) (.cons hC (.cons ha (.cons hb (.nil _ _)))) ?_
  refine J_seq ?_
  refine J_reg mixed [.rd 0 [] 0 0] [] [0, 1, 4] (E1 := fun _ => [(0, .val (.slice a xs.length ca)), (1, .val (.slice b ys.length cb)), (4, .val (.bool false))]) (h1 := fun _ => []) (p1 := fun _ => []) (W1 := []) (by kernel_rfl) (fun _ => by kernel_rfl) (fun _ => trivial) (fun _ => ?_)
  refine J_seq ?_
  refine JR_begin mixed [(0, false), (1, true)] [] (by kernel_rfl) (by kernel_rfl) ?_
  refine JR_callp [] 11 #[] (some 18) (by kernel_rfl) (fun w S hG => ?_)
  refine (vtimed (globs_of (hG.at 0 rfl))).mono ?_
  rintro e1 w1 hR
  refine ⟨_, _, _, hR, ?_⟩
  try simp only [List.cons_append, List.nil_append, List.append_nil]
  refine JR_run (id := 1) (rest := []) [.rd 1 [] 0 0] [0, 1, 4, 5] (E1 := fun _ => [(0, .val (.slice a xs.length ca)), (1, .val (.slice b ys.length cb)), (4, .val (.bool false)), (5, .val (.bool true))]) (h1 := fun _ => []) (p1 := fun _ => []) (W1 := []) (fun _ => by kernel_rfl) (fun _ => trivial) (fun _ => ?_)
  refine JR_end ?_
  refine J_seq ?_
  refine J_seq ?_
  refine J_reg mixed [.rd 0 [] 0 0, .rd 1 [] 0 0, .rd 2 [] 0 0, .rd 3 [] 0 0, .rd 4 [] 0 0, .rd 5 [] 0 0, .rd 6 [] 0 0, .rd 7 [] 0 0, .rd 8 [] 2 0, .rd 9 [] 2 0, .rd 10 [] 2 0, .rd 11 [] 0 3] [] [0, 1, 4, 5, 30] (E1 := fun _ => [(0, .val (.slice a xs.length ca)), (1, .val (.slice b ys.length cb)), (4, .val (.bool false)), (5, .val (.bool true)), (30, .val (.bool (decide ((↑xs.length : Int) > 20) || decide ((↑ys.length : Int) > 20))))]) (h1 := fun _ => []) (p1 := fun _ => []) (W1 := []) (by kernel_rfl) (fun _ => by kernel_rfl) (fun _ => trivial) (fun _ => ?_)
  refine J_cond (t := decide ((↑xs.length : Int) > 20) || decide ((↑ys.length : Int) > 20)) (by kernel_rfl) (by kernel_rfl) (fun hbad => ?_) (fun hbad => ?_)
  · refine J_seq ?_
    refine J_reg mixed [.rd 0 [] 0 0, .rd 1 [] 0 0] [] [0, 1, 4] (E1 := fun _ => [(0, .val (.slice a xs.length ca)), (1, .val (.slice b ys.length cb)), (4, .val (.bool true))]) (h1 := fun _ => []) (p1 := fun _ => []) (W1 := []) (by kernel_rfl) (fun _ => by kernel_rfl) (fun _ => trivial) (fun _ => ?_)
    refine J_return [[]] (.bool true) (by kernel_rfl) (fun a w s => ?_)
    exact s.ret (by simp) [] [] rfl rfl
  obtain ⟨hl1, hl2⟩ : xs.length ≤ 20 ∧ ys.length ≤ 20 := by simp at hbad; omega
  refine J_skip ?_
  refine J_seq ?_
  refine JR_begin mixed [(0, true), (1, false), (2, true), (3, false), (4, false), (5, true), (6, true), (7, true), (8, true), (9, true)] [] (by kernel_rfl) (by kernel_rfl) ?_
  refine JR_run (id := 4) (rest := [(1, false), (2, true), (3, false), (4, false), (5, true), (6, true), (7, true), (8, true), (9, true)]) [.rd 0 [] 0 0] [0, 1, 4, 33] (E1 := fun _ => [(0, .val (.slice a xs.length ca)), (1, .val (.slice b ys.length cb)), (4, .val (.bool false)), (33, .val (.slice a xs.length ca))]) (h1 := fun _ => []) (p1 := fun _ => []) (W1 := []) (fun _ => by kernel_rfl) (fun _ => trivial) (fun _ => ?_)
  by_cases hab : twoErr xs ys = 0
  rotate_left
  · skip
    refine JR_callp [] 13 #[.slice a xs.length ca] (some 34) (by kernel_rfl) (fun w S hG => ?_)
    refine (vown (hG.at 1 rfl) (by omega)).mono ?_
    rintro e1 w1 ⟨oa1, oc1, hR⟩
    refine ⟨_, _, _, hR, ?_⟩
    try simp only [List.cons_append, List.nil_append, List.append_nil]
    refine JR_run (id := 4) (rest := [(3, false), (4, false), (5, true), (6, true), (7, true), (8, true), (9, true)]) [.rd 2 [] 0 0] [0, 1, 4, 34, 35] (E1 := fun _ => [(0, .val (.slice a xs.length ca)), (1, .val (.slice b ys.length cb)), (4, .val (.bool false)), (34, .val (.slice oa1 xs.length oc1)), (35, .val (.slice b ys.length cb))]) (h1 := fun _ => []) (p1 := fun _ => []) (W1 := []) (fun _ => by kernel_rfl) (fun _ => trivial) (fun _ => ?_)
    refine JR_callp [] 13 #[.slice b ys.length cb] (some 36) (by kernel_rfl) (fun w S hG => ?_)
    refine (vown (hG.at 2 rfl) (by omega)).mono ?_
    rintro e2 w2 ⟨oa2, oc2, hR⟩
    refine ⟨_, _, _, hR, ?_⟩
    try simp only [List.cons_append, List.nil_append, List.append_nil]
    refine JR_callp [] 14 #[.slice oa1 xs.length oc1, .slice oa2 ys.length oc2] (some 37) (by kernel_rfl) (fun w S hG => ?_)
    refine (vLeast (globs_of (hG.at 0 rfl)) (hG.at 3 rfl) (hG.at 4 rfl) (by omega) (by omega)).mono ?_
    rintro e3 w3 (⟨h2, hR⟩ | ⟨h2, ra3, rn3, rc3, hR⟩)
    rotate_left
    · exact absurd h2 hab
    refine ⟨_, _, _, hR, ?_⟩
    try simp only [List.cons_append, List.nil_append, List.append_nil]
    refine JR_run (id := 4) (rest := []) [.rd 5 [] 0 0, .rd 6 [] 0 0, .rd 7 [] 0 0, .rd 8 [] 0 0, .rd 9 [] 0 0] [0, 1, 4, 6, 7] (E1 := fun _ => [(0, .val (.slice a xs.length ca)), (1, .val (.slice b ys.length cb)), (4, .val (.bool false)), (6, .val (.slice none 0 0)), (7, .val (.iface 94 (.pointer (some (er (twoErr xs ys))))))]) (h1 := fun _ => []) (p1 := fun _ => []) (W1 := []) (fun _ => by kernel_rfl) (fun _ => trivial) (fun _ => ?_)
    refine JR_end ?_
    refine J_seq ?_
    refine JR_begin mixed [(0, true), (1, false), (2, true), (3, false), (4, false), (5, true), (6, true), (7, true), (8, true), (9, true)] [] (by kernel_rfl) (by kernel_rfl) ?_
    refine JR_run (id := 5) (rest := [(1, false), (2, true), (3, false), (4, false), (5, true), (6, true), (7, true), (8, true), (9, true)]) [.rd 0 [] 0 0] [0, 1, 4, 6, 7, 41] (E1 := fun _ => [(0, .val (.slice a xs.length ca)), (1, .val (.slice b ys.length cb)), (4, .val (.bool false)), (6, .val (.slice none 0 0)), (7, .val (.iface 94 (.pointer (some (er (twoErr xs ys)))))), (41, .val (.slice a xs.length ca))]) (h1 := fun _ => []) (p1 := fun _ => []) (W1 := []) (fun _ => by kernel_rfl) (fun _ => trivial) (fun _ => ?_)
    refine JR_callp [] 13 #[.slice a xs.length ca] (some 42) (by kernel_rfl) (fun w S hG => ?_)
    refine (vown (hG.at 1 rfl) (by omega)).mono ?_
    rintro e4 w4 ⟨oa4, oc4, hR⟩
    refine ⟨_, _, _, hR, ?_⟩
    try simp only [List.cons_append, List.nil_append, List.append_nil]
    refine JR_run (id := 5) (rest := [(3, false), (4, false), (5, true), (6, true), (7, true), (8, true), (9, true)]) [.rd 2 [] 0 0] [0, 1, 4, 6, 7, 42, 43] (E1 := fun _ => [(0, .val (.slice a xs.length ca)), (1, .val (.slice b ys.length cb)), (4, .val (.bool false)), (6, .val (.slice none 0 0)), (7, .val (.iface 94 (.pointer (some (er (twoErr xs ys)))))), (42, .val (.slice oa4 xs.length oc4)), (43, .val (.slice b ys.length cb))]) (h1 := fun _ => []) (p1 := fun _ => []) (W1 := []) (fun _ => by kernel_rfl) (fun _ => trivial) (fun _ => ?_)
    refine JR_callp [] 13 #[.slice b ys.length cb] (some 44) (by kernel_rfl) (fun w S hG => ?_)
    refine (vown (hG.at 2 rfl) (by omega)).mono ?_
    rintro e5 w5 ⟨oa5, oc5, hR⟩
    refine ⟨_, _, _, hR, ?_⟩
    try simp only [List.cons_append, List.nil_append, List.append_nil]
    refine JR_callp [] 12 #[.slice oa4 xs.length oc4, .slice oa5 ys.length oc5] (some 45) (by kernel_rfl) (fun w S hG => ?_)
    refine (vMost (globs_of (hG.at 0 rfl)) (hG.at 5 rfl) (hG.at 6 rfl) (by omega) (by omega)).mono ?_
    rintro e6 w6 (⟨h2, hR⟩ | ⟨h2, ra6, rn6, rc6, hR⟩)
    rotate_left
    · exact absurd h2 hab
    refine ⟨_, _, _, hR, ?_⟩
    try simp only [List.cons_append, List.nil_append, List.append_nil]
    refine JR_run (id := 5) (rest := []) [.rd 5 [] 0 0, .rd 6 [] 0 0, .rd 7 [] 0 0, .rd 8 [] 0 0, .rd 9 [] 0 0] [0, 1, 4, 6, 7, 8, 9] (E1 := fun _ => [(0, .val (.slice a xs.length ca)), (1, .val (.slice b ys.length cb)), (4, .val (.bool false)), (6, .val (.slice none 0 0)), (7, .val (.iface 94 (.pointer (some (er (twoErr xs ys)))))), (8, .val (.slice none 0 0)), (9, .val (.iface 94 (.pointer (some (er (twoErr xs ys))))))]) (h1 := fun _ => []) (p1 := fun _ => []) (W1 := []) (fun _ => by kernel_rfl) (fun _ => trivial) (fun _ => ?_)
    refine JR_end ?_
    refine J_seq ?_
    refine JR_begin mixed [(0, true), (1, false), (2, true), (3, false), (4, false), (5, true), (6, true), (7, true), (8, true), (9, true)] [] (by kernel_rfl) (by kernel_rfl) ?_
    refine JR_run (id := 6) (rest := [(1, false), (2, true), (3, false), (4, false), (5, true), (6, true), (7, true), (8, true), (9, true)]) [.rd 0 [] 0 0] [0, 1, 4, 6, 7, 8, 9, 49] (E1 := fun _ => [(0, .val (.slice a xs.length ca)), (1, .val (.slice b ys.length cb)), (4, .val (.bool false)), (6, .val (.slice none 0 0)), (7, .val (.iface 94 (.pointer (some (er (twoErr xs ys)))))), (8, .val (.slice none 0 0)), (9, .val (.iface 94 (.pointer (some (er (twoErr xs ys)))))), (49, .val (.slice a xs.length ca))]) (h1 := fun _ => []) (p1 := fun _ => []) (W1 := []) (fun _ => by kernel_rfl) (fun _ => trivial) (fun _ => ?_)
    refine JR_callp [] 13 #[.slice a xs.length ca] (some 50) (by kernel_rfl) (fun w S hG => ?_)
    refine (vown (hG.at 1 rfl) (by omega)).mono ?_
    rintro e7 w7 ⟨oa7, oc7, hR⟩
    refine ⟨_, _, _, hR, ?_⟩
    try simp only [List.cons_append, List.nil_append, List.append_nil]
    refine JR_run (id := 6) (rest := [(3, false), (4, false), (5, true), (6, true), (7, true), (8, true), (9, true)]) [.rd 2 [] 0 0] [0, 1, 4, 6, 7, 8, 9, 50, 51] (E1 := fun _ => [(0, .val (.slice a xs.length ca)), (1, .val (.slice b ys.length cb)), (4, .val (.bool false)), (6, .val (.slice none 0 0)), (7, .val (.iface 94 (.pointer (some (er (twoErr xs ys)))))), (8, .val (.slice none 0 0)), (9, .val (.iface 94 (.pointer (some (er (twoErr xs ys)))))), (50, .val (.slice oa7 xs.length oc7)), (51, .val (.slice b ys.length cb))]) (h1 := fun _ => []) (p1 := fun _ => []) (W1 := []) (fun _ => by kernel_rfl) (fun _ => trivial) (fun _ => ?_)
    refine JR_callp [] 13 #[.slice b ys.length cb] (some 52) (by kernel_rfl) (fun w S hG => ?_)
    refine (vown (hG.at 2 rfl) (by omega)).mono ?_
    rintro e8 w8 ⟨oa8, oc8, hR⟩
    refine ⟨_, _, _, hR, ?_⟩
    try simp only [List.cons_append, List.nil_append, List.append_nil]
    refine JR_callp [] 15 #[.slice oa7 xs.length oc7, .slice oa8 ys.length oc8] (some 53) (by kernel_rfl) (fun w S hG => ?_)
    refine (vwithin (globs_of (hG.at 0 rfl)) (hG.at 7 rfl) (hG.at 8 rfl) (by omega) (by omega)).mono ?_
    rintro e9 w9 (⟨h2, hR⟩ | ⟨h2, hR⟩)
    rotate_left
    · exact absurd h2 hab
    refine ⟨_, _, _, hR, ?_⟩
    try simp only [List.cons_append, List.nil_append, List.append_nil]
    refine JR_run (id := 6) (rest := []) [.rd 5 [] 0 0, .rd 6 [] 0 0, .rd 7 [] 0 0, .rd 8 [] 0 0, .rd 9 [] 0 0] [0, 1, 4, 6, 7, 8, 9, 10, 11] (E1 := fun _ => [(0, .val (.slice a xs.length ca)), (1, .val (.slice b ys.length cb)), (4, .val (.bool false)), (6, .val (.slice none 0 0)), (7, .val (.iface 94 (.pointer (some (er (twoErr xs ys)))))), (8, .val (.slice none 0 0)), (9, .val (.iface 94 (.pointer (some (er (twoErr xs ys)))))), (10, .val (.bool false)), (11, .val (.iface 94 (.pointer (some (er (twoErr xs ys))))))]) (h1 := fun _ => []) (p1 := fun _ => []) (W1 := []) (fun _ => by kernel_rfl) (fun _ => trivial) (fun _ => ?_)
    refine JR_end ?_
    refine J_seq ?_
    refine JR_begin mixed [(0, true), (1, false), (2, true), (3, false), (4, false), (5, true), (6, true), (7, true), (8, true), (9, true)] [] (by kernel_rfl) (by kernel_rfl) ?_
    refine JR_run (id := 7) (rest := [(1, false), (2, true), (3, false), (4, false), (5, true), (6, true), (7, true), (8, true), (9, true)]) [.rd 0 [] 0 0] [0, 1, 4, 6, 7, 8, 9, 10, 11, 57] (E1 := fun _ => [(0, .val (.slice a xs.length ca)), (1, .val (.slice b ys.length cb)), (4, .val (.bool false)), (6, .val (.slice none 0 0)), (7, .val (.iface 94 (.pointer (some (er (twoErr xs ys)))))), (8, .val (.slice none 0 0)), (9, .val (.iface 94 (.pointer (some (er (twoErr xs ys)))))), (10, .val (.bool false)), (11, .val (.iface 94 (.pointer (some (er (twoErr xs ys)))))), (57, .val (.slice a xs.length ca))]) (h1 := fun _ => []) (p1 := fun _ => []) (W1 := []) (fun _ => by kernel_rfl) (fun _ => trivial) (fun _ => ?_)
    refine JR_callp [] 13 #[.slice a xs.length ca] (some 58) (by kernel_rfl) (fun w S hG => ?_)
    refine (vown (hG.at 1 rfl) (by omega)).mono ?_
    rintro e10 w10 ⟨oa10, oc10, hR⟩
    refine ⟨_, _, _, hR, ?_⟩
    try simp only [List.cons_append, List.nil_append, List.append_nil]
    refine JR_run (id := 7) (rest := [(3, false), (4, false), (5, true), (6, true), (7, true), (8, true), (9, true)]) [.rd 2 [] 0 0] [0, 1, 4, 6, 7, 8, 9, 10, 11, 58, 59] (E1 := fun _ => [(0, .val (.slice a xs.length ca)), (1, .val (.slice b ys.length cb)), (4, .val (.bool false)), (6, .val (.slice none 0 0)), (7, .val (.iface 94 (.pointer (some (er (twoErr xs ys)))))), (8, .val (.slice none 0 0)), (9, .val (.iface 94 (.pointer (some (er (twoErr xs ys)))))), (10, .val (.bool false)), (11, .val (.iface 94 (.pointer (some (er (twoErr xs ys)))))), (58, .val (.slice oa10 xs.length oc10)), (59, .val (.slice b ys.length cb))]) (h1 := fun _ => []) (p1 := fun _ => []) (W1 := []) (fun _ => by kernel_rfl) (fun _ => trivial) (fun _ => ?_)
    refine JR_callp [] 13 #[.slice b ys.length cb] (some 60) (by kernel_rfl) (fun w S hG => ?_)
    refine (vown (hG.at 2 rfl) (by omega)).mono ?_
    rintro e11 w11 ⟨oa11, oc11, hR⟩
    refine ⟨_, _, _, hR, ?_⟩
    try simp only [List.cons_append, List.nil_append, List.append_nil]
    refine JR_callp [] 18 #[.slice oa10 xs.length oc10, .slice oa11 ys.length oc11] (some 61) (by kernel_rfl) (fun w S hG => ?_)
    refine (vorder (globs_of (hG.at 0 rfl)) (hG.at 9 rfl) (hG.at 10 rfl) (by omega) (by omega)).mono ?_
    rintro e12 w12 (⟨h2, hR⟩ | ⟨h2, hR⟩)
    rotate_left
    · exact absurd h2 hab
    refine ⟨_, _, _, hR, ?_⟩
    try simp only [List.cons_append, List.nil_append, List.append_nil]
    refine JR_run (id := 7) (rest := []) [.rd 5 [] 0 0, .rd 6 [] 0 0, .rd 7 [] 0 0, .rd 8 [] 0 0, .rd 9 [] 0 0] [0, 1, 4, 6, 7, 8, 9, 10, 11, 12, 13] (E1 := fun _ => [(0, .val (.slice a xs.length ca)), (1, .val (.slice b ys.length cb)), (4, .val (.bool false)), (6, .val (.slice none 0 0)), (7, .val (.iface 94 (.pointer (some (er (twoErr xs ys)))))), (8, .val (.slice none 0 0)), (9, .val (.iface 94 (.pointer (some (er (twoErr xs ys)))))), (10, .val (.bool false)), (11, .val (.iface 94 (.pointer (some (er (twoErr xs ys)))))), (12, .val (.int .i64 0)), (13, .val (.iface 94 (.pointer (some (er (twoErr xs ys))))))]) (h1 := fun _ => []) (p1 := fun _ => []) (W1 := []) (fun _ => by kernel_rfl) (fun _ => trivial) (fun _ => ?_)
    refine JR_end ?_
    refine J_seq ?_
    refine JR_begin mixed [(0, true), (1, true), (2, false), (3, true)] [] (by kernel_rfl) (by kernel_rfl) ?_
    refine JR_run (id := 8) (rest := [(2, false), (3, true)]) [.rd 0 [] 0 0, .rd 1 [] 0 0] [0, 1, 4, 6, 7, 8, 9, 10, 11, 12, 13, 64, 65] (E1 := fun _ => [(0, .val (.slice a xs.length ca)), (1, .val (.slice b ys.length cb)), (4, .val (.bool false)), (6, .val (.slice none 0 0)), (7, .val (.iface 94 (.pointer (some (er (twoErr xs ys)))))), (8, .val (.slice none 0 0)), (9, .val (.iface 94 (.pointer (some (er (twoErr xs ys)))))), (10, .val (.bool false)), (11, .val (.iface 94 (.pointer (some (er (twoErr xs ys)))))), (12, .val (.int .i64 0)), (13, .val (.iface 94 (.pointer (some (er (twoErr xs ys)))))), (64, .val (.slice a xs.length ca)), (65, .val (.slice b ys.length cb))]) (h1 := fun _ => []) (p1 := fun _ => []) (W1 := []) (fun _ => by kernel_rfl) (fun _ => trivial) (fun _ => ?_)
    refine JR_callp [] 19 #[.slice a xs.length ca, .slice b ys.length cb] (some 66) (by kernel_rfl) (fun w S hG => ?_)
    refine (rTwoErr (hG.at 1 rfl) (hG.at 2 rfl) (by omega) (by omega)).mono ?_
    rintro e13 w13 hR
    refine ⟨_, _, _, hR, ?_⟩
    try simp only [List.cons_append, List.nil_append, List.append_nil]
    refine JR_run (id := 8) (rest := []) [.rd 3 [] 0 0] [0, 1, 4, 6, 7, 8, 9, 10, 11, 12, 13, 14] (E1 := fun _ => [(0, .val (.slice a xs.length ca)), (1, .val (.slice b ys.length cb)), (4, .val (.bool false)), (6, .val (.slice none 0 0)), (7, .val (.iface 94 (.pointer (some (er (twoErr xs ys)))))), (8, .val (.slice none 0 0)), (9, .val (.iface 94 (.pointer (some (er (twoErr xs ys)))))), (10, .val (.bool false)), (11, .val (.iface 94 (.pointer (some (er (twoErr xs ys)))))), (12, .val (.int .i64 0)), (13, .val (.iface 94 (.pointer (some (er (twoErr xs ys)))))), (14, .val (.int .i64 ((↑(twoErr xs ys) : Int))))]) (h1 := fun _ => []) (p1 := fun _ => []) (W1 := []) (fun _ => by kernel_rfl) (fun _ => trivial) (fun _ => ?_)
    refine JR_end ?_
    refine J_seq ?_
    refine J_seq ?_
    refine JR_begin mixed [(0, true), (1, false), (2, false), (3, true), (4, false), (5, false), (6, true)] [] (by kernel_rfl) (by kernel_rfl) ?_
    refine JR_run (id := 9) (rest := [(1, false), (2, false), (3, true), (4, false), (5, false), (6, true)]) [.rd 0 [] 0 0] [0, 1, 4, 6, 7, 8, 9, 10, 11, 12, 13, 14, 67] (E1 := fun _ => [(0, .val (.slice a xs.length ca)), (1, .val (.slice b ys.length cb)), (4, .val (.bool false)), (6, .val (.slice none 0 0)), (7, .val (.iface 94 (.pointer (some (er (twoErr xs ys)))))), (8, .val (.slice none 0 0)), (9, .val (.iface 94 (.pointer (some (er (twoErr xs ys)))))), (10, .val (.bool false)), (11, .val (.iface 94 (.pointer (some (er (twoErr xs ys)))))), (12, .val (.int .i64 0)), (13, .val (.iface 94 (.pointer (some (er (twoErr xs ys)))))), (14, .val (.int .i64 ((↑(twoErr xs ys) : Int)))), (67, .val (.slice a xs.length ca))]) (h1 := fun _ => []) (p1 := fun _ => []) (W1 := []) (fun _ => by kernel_rfl) (fun _ => trivial) (fun _ => ?_)
    refine JR_callp [] 13 #[.slice a xs.length ca] (some 68) (by kernel_rfl) (fun w S hG => ?_)
    refine (vown (hG.at 1 rfl) (by omega)).mono ?_
    rintro e14 w14 ⟨oa14, oc14, hR⟩
    refine ⟨_, _, _, hR, ?_⟩
    try simp only [List.cons_append, List.nil_append, List.append_nil]
    refine JR_callp [] 21 #[.slice oa14 xs.length oc14] (some 69) (by kernel_rfl) (fun w S hG => ?_)
    refine (vcheck (globs_of (hG.at 0 rfl)) (hG.at 11 rfl) (by omega)).mono ?_
    rintro e15 w15 ⟨v15, hR, hv⟩
    refine ⟨_, _, _, hR, ?_⟩
    try simp only [List.cons_append, List.nil_append, List.append_nil]
    refine JR_run (id := 9) (rest := [(4, false), (5, false), (6, true)]) [.rd 3 [] 0 0] [0, 1, 4, 6, 7, 8, 9, 10, 11, 12, 13, 14, 69, 70] (E1 := fun _ => [(0, .val (.slice a xs.length ca)), (1, .val (.slice b ys.length cb)), (4, .val (.bool false)), (6, .val (.slice none 0 0)), (7, .val (.iface 94 (.pointer (some (er (twoErr xs ys)))))), (8, .val (.slice none 0 0)), (9, .val (.iface 94 (.pointer (some (er (twoErr xs ys)))))), (10, .val (.bool false)), (11, .val (.iface 94 (.pointer (some (er (twoErr xs ys)))))), (12, .val (.int .i64 0)), (13, .val (.iface 94 (.pointer (some (er (twoErr xs ys)))))), (14, .val (.int .i64 ((↑(twoErr xs ys) : Int)))), (69, .val (v15)), (70, .val (.slice a xs.length ca))]) (h1 := fun _ => []) (p1 := fun _ => []) (W1 := []) (fun _ => by kernel_rfl) (fun _ => trivial) (fun _ => ?_)
    refine JR_callp [] 22 #[.slice a xs.length ca] (some 71) (by kernel_rfl) (fun w S hG => ?_)
    refine (rVecErr (hG.at 1 rfl) (by omega)).mono ?_
    rintro e16 w16 hR
    refine ⟨_, _, _, hR, ?_⟩
    try simp only [List.cons_append, List.nil_append, List.append_nil]
    refine JR_callp [] 20 #[v15, .int .i64 ((↑(vecErr xs) : Int))] (some 72) (by kernel_rfl) (fun w S hG => ?_)
    refine (codedErr (hG.at 0 rfl) hI (k := vecErr xs) (by have := vecErr_le xs; omega) hv).mono ?_
    rintro e17 w17 hR
    rw [decide_eq_true rfl] at hR
    refine ⟨_, _, _, hR, ?_⟩
    try simp only [List.cons_append, List.nil_append, List.append_nil]
    refine JR_run (id := 9) (rest := []) [.rd 6 [] 0 0] [0, 1, 4, 6, 7, 8, 9, 10, 11, 12, 13, 14, 73] (E1 := fun _ => [(0, .val (.slice a xs.length ca)), (1, .val (.slice b ys.length cb)), (4, .val (.bool false)), (6, .val (.slice none 0 0)), (7, .val (.iface 94 (.pointer (some (er (twoErr xs ys)))))), (8, .val (.slice none 0 0)), (9, .val (.iface 94 (.pointer (some (er (twoErr xs ys)))))), (10, .val (.bool false)), (11, .val (.iface 94 (.pointer (some (er (twoErr xs ys)))))), (12, .val (.int .i64 0)), (13, .val (.iface 94 (.pointer (some (er (twoErr xs ys)))))), (14, .val (.int .i64 ((↑(twoErr xs ys) : Int)))), (73, .val (.bool false))]) (h1 := fun _ => []) (p1 := fun _ => []) (W1 := []) (fun _ => by kernel_rfl) (fun _ => trivial) (fun _ => ?_)
    refine JR_end ?_
    refine J_cond_f (by kernel_rfl) (by kernel_rfl) ?_
    refine J_skip ?_
    refine J_seq ?_
    refine J_seq ?_
    refine J_reg mixed [.rd 0 [] 0 0, .rd 1 [] 0 0] [] [0, 1, 4, 6, 7, 8, 9, 10, 11, 12, 13, 14, 75] (E1 := fun _ => [(0, .val (.slice a xs.length ca)), (1, .val (.slice b ys.length cb)), (4, .val (.bool false)), (6, .val (.slice none 0 0)), (7, .val (.iface 94 (.pointer (some (er (twoErr xs ys)))))), (8, .val (.slice none 0 0)), (9, .val (.iface 94 (.pointer (some (er (twoErr xs ys)))))), (10, .val (.bool false)), (11, .val (.iface 94 (.pointer (some (er (twoErr xs ys)))))), (12, .val (.int .i64 0)), (13, .val (.iface 94 (.pointer (some (er (twoErr xs ys)))))), (14, .val (.int .i64 ((↑(twoErr xs ys) : Int)))), (75, .val (.bool (decide ((↑(twoErr xs ys) : Int) > 0))))]) (h1 := fun _ => []) (p1 := fun _ => []) (W1 := []) (by kernel_rfl) (fun _ => by kernel_rfl) (fun _ => trivial) (fun _ => ?_)
    refine J_condT (decide ((↑(twoErr xs ys) : Int) > 0)) (by kernel_rfl) (by kernel_rfl) (by simp; omega) ?_
    refine J_seq ?_
    refine JR_begin mixed [(0, true), (1, true), (2, false), (3, true), (4, true), (5, true), (6, false), (7, true), (8, true), (9, true), (10, true), (11, false), (12, true), (13, true), (14, true), (15, true), (16, false), (17, true), (18, true), (19, true), (20, true), (21, true), (22, true), (23, true), (24, true), (25, true), (26, true), (27, true), (28, true), (29, true), (30, true), (31, true), (32, true)] [] (by kernel_rfl) (by kernel_rfl) ?_
    refine JR_run (id := 12) (rest := [(2, false), (3, true), (4, true), (5, true), (6, false), (7, true), (8, true), (9, true), (10, true), (11, false), (12, true), (13, true), (14, true), (15, true), (16, false), (17, true), (18, true), (19, true), (20, true), (21, true), (22, true), (23, true), (24, true), (25, true), (26, true), (27, true), (28, true), (29, true), (30, true), (31, true), (32, true)]) [.rd 0 [] 0 0, .rd 1 [] 0 0] [0, 1, 4, 6, 7, 8, 9, 10, 11, 12, 13, 14, 76, 77] (E1 := fun _ => [(0, .val (.slice a xs.length ca)), (1, .val (.slice b ys.length cb)), (4, .val (.bool false)), (6, .val (.slice none 0 0)), (7, .val (.iface 94 (.pointer (some (er (twoErr xs ys)))))), (8, .val (.slice none 0 0)), (9, .val (.iface 94 (.pointer (some (er (twoErr xs ys)))))), (10, .val (.bool false)), (11, .val (.iface 94 (.pointer (some (er (twoErr xs ys)))))), (12, .val (.int .i64 0)), (13, .val (.iface 94 (.pointer (some (er (twoErr xs ys)))))), (14, .val (.int .i64 ((↑(twoErr xs ys) : Int)))), (76, .val (.iface 94 (.pointer (some (er (twoErr xs ys)))))), (77, .val (.int .i64 ((↑(twoErr xs ys) : Int))))]) (h1 := fun _ => []) (p1 := fun _ => []) (W1 := []) (fun _ => by kernel_rfl) (fun _ => trivial) (fun _ => ?_)
    refine JR_callp [] 20 #[.iface 94 (.pointer (some (er (twoErr xs ys)))), .int .i64 ((↑(twoErr xs ys) : Int))] (some 78) (by kernel_rfl) (fun w S hG => ?_)
    refine (codedErr (hG.at 0 rfl) hI (k := twoErr xs ys) (by have := twoErr_le xs ys; omega) (.inr ⟨hab, rfl⟩)).mono ?_
    rintro e18 w18 hR
    rw [decide_eq_true rfl] at hR
    refine ⟨_, _, _, hR, ?_⟩
    try simp only [List.cons_append, List.nil_append, List.append_nil]
    refine JR_run (id := 12) (rest := [(6, false), (7, true), (8, true), (9, true), (10, true), (11, false), (12, true), (13, true), (14, true), (15, true), (16, false), (17, true), (18, true), (19, true), (20, true), (21, true), (22, true), (23, true), (24, true), (25, true), (26, true), (27, true), (28, true), (29, true), (30, true), (31, true), (32, true)]) [.rd 3 [] 0 0, .rd 4 [] 0 0, .rd 5 [] 0 0] [0, 1, 4, 6, 7, 8, 9, 10, 11, 12, 13, 14, 79, 80, 81] (E1 := fun _ => [(0, .val (.slice a xs.length ca)), (1, .val (.slice b ys.length cb)), (4, .val (.bool false)), (6, .val (.slice none 0 0)), (7, .val (.iface 94 (.pointer (some (er (twoErr xs ys)))))), (8, .val (.slice none 0 0)), (9, .val (.iface 94 (.pointer (some (er (twoErr xs ys)))))), (10, .val (.bool false)), (11, .val (.iface 94 (.pointer (some (er (twoErr xs ys)))))), (12, .val (.int .i64 0)), (13, .val (.iface 94 (.pointer (some (er (twoErr xs ys)))))), (14, .val (.int .i64 ((↑(twoErr xs ys) : Int)))), (79, .val (.bool true)), (80, .val (.iface 94 (.pointer (some (er (twoErr xs ys)))))), (81, .val (.int .i64 ((↑(twoErr xs ys) : Int))))]) (h1 := fun _ => []) (p1 := fun _ => []) (W1 := []) (fun _ => by kernel_rfl) (fun _ => trivial) (fun _ => ?_)
    refine JR_callp [] 20 #[.iface 94 (.pointer (some (er (twoErr xs ys)))), .int .i64 ((↑(twoErr xs ys) : Int))] (some 82) (by kernel_rfl) (fun w S hG => ?_)
    refine (codedErr (hG.at 0 rfl) hI (k := twoErr xs ys) (by have := twoErr_le xs ys; omega) (.inr ⟨hab, rfl⟩)).mono ?_
    rintro e19 w19 hR
    rw [decide_eq_true rfl] at hR
    refine ⟨_, _, _, hR, ?_⟩
    try simp only [List.cons_append, List.nil_append, List.append_nil]
    refine JR_run (id := 12) (rest := [(11, false), (12, true), (13, true), (14, true), (15, true), (16, false), (17, true), (18, true), (19, true), (20, true), (21, true), (22, true), (23, true), (24, true), (25, true), (26, true), (27, true), (28, true), (29, true), (30, true), (31, true), (32, true)]) [.rd 7 [] 0 0, .rd 8 [] 0 0, .rd 9 [] 0 0, .rd 10 [] 0 0] [0, 1, 4, 6, 7, 8, 9, 10, 11, 12, 13, 14, 84, 85, 86] (E1 := fun _ => [(0, .val (.slice a xs.length ca)), (1, .val (.slice b ys.length cb)), (4, .val (.bool false)), (6, .val (.slice none 0 0)), (7, .val (.iface 94 (.pointer (some (er (twoErr xs ys)))))), (8, .val (.slice none 0 0)), (9, .val (.iface 94 (.pointer (some (er (twoErr xs ys)))))), (10, .val (.bool false)), (11, .val (.iface 94 (.pointer (some (er (twoErr xs ys)))))), (12, .val (.int .i64 0)), (13, .val (.iface 94 (.pointer (some (er (twoErr xs ys)))))), (14, .val (.int .i64 ((↑(twoErr xs ys) : Int)))), (84, .val (.bool true)), (85, .val (.iface 94 (.pointer (some (er (twoErr xs ys)))))), (86, .val (.int .i64 ((↑(twoErr xs ys) : Int))))]) (h1 := fun _ => []) (p1 := fun _ => []) (W1 := []) (fun _ => by kernel_rfl) (fun _ => trivial) (fun _ => ?_)
    refine JR_callp [] 20 #[.iface 94 (.pointer (some (er (twoErr xs ys)))), .int .i64 ((↑(twoErr xs ys) : Int))] (some 87) (by kernel_rfl) (fun w S hG => ?_)
    refine (codedErr (hG.at 0 rfl) hI (k := twoErr xs ys) (by have := twoErr_le xs ys; omega) (.inr ⟨hab, rfl⟩)).mono ?_
    rintro e20 w20 hR
    rw [decide_eq_true rfl] at hR
    refine ⟨_, _, _, hR, ?_⟩
    try simp only [List.cons_append, List.nil_append, List.append_nil]
    refine JR_run (id := 12) (rest := [(16, false), (17, true), (18, true), (19, true), (20, true), (21, true), (22, true), (23, true), (24, true), (25, true), (26, true), (27, true), (28, true), (29, true), (30, true), (31, true), (32, true)]) [.rd 12 [] 0 0, .rd 13 [] 0 0, .rd 14 [] 0 0, .rd 15 [] 0 0] [0, 1, 4, 6, 7, 8, 9, 10, 11, 12, 13, 89, 90, 91] (E1 := fun _ => [(0, .val (.slice a xs.length ca)), (1, .val (.slice b ys.length cb)), (4, .val (.bool false)), (6, .val (.slice none 0 0)), (7, .val (.iface 94 (.pointer (some (er (twoErr xs ys)))))), (8, .val (.slice none 0 0)), (9, .val (.iface 94 (.pointer (some (er (twoErr xs ys)))))), (10, .val (.bool false)), (11, .val (.iface 94 (.pointer (some (er (twoErr xs ys)))))), (12, .val (.int .i64 0)), (13, .val (.iface 94 (.pointer (some (er (twoErr xs ys)))))), (89, .val (.bool true)), (90, .val (.iface 94 (.pointer (some (er (twoErr xs ys)))))), (91, .val (.int .i64 ((↑(twoErr xs ys) : Int))))]) (h1 := fun _ => []) (p1 := fun _ => []) (W1 := []) (fun _ => by kernel_rfl) (fun _ => trivial) (fun _ => ?_)
    refine JR_callp [] 20 #[.iface 94 (.pointer (some (er (twoErr xs ys)))), .int .i64 ((↑(twoErr xs ys) : Int))] (some 92) (by kernel_rfl) (fun w S hG => ?_)
    refine (codedErr (hG.at 0 rfl) hI (k := twoErr xs ys) (by have := twoErr_le xs ys; omega) (.inr ⟨hab, rfl⟩)).mono ?_
    rintro e21 w21 hR
    rw [decide_eq_true rfl] at hR
    refine ⟨_, _, _, hR, ?_⟩
    try simp only [List.cons_append, List.nil_append, List.append_nil]
    refine JR_run (id := 12) (rest := []) [.rd 17 [] 0 0, .rd 18 [] 0 0, .rd 19 [] 0 0, .rd 20 [] 0 0, .rd 21 [] 0 0, .rd 22 [] 0 0, .rd 23 [] 0 0, .rd 24 [] 0 0, .rd 25 [] 0 0, .rd 26 [] 0 0, .rd 27 [] 0 0, .rd 28 [] 0 0, .rd 29 [] 0 0, .rd 30 [] 0 0, .rd 31 [] 0 0, .rd 32 [] 0 0] [0, 1, 4, 6, 7, 8, 9, 10, 11, 12, 13] (E1 := fun _ => [(0, .val (.slice a xs.length ca)), (1, .val (.slice b ys.length cb)), (4, .val (.bool true)), (6, .val (.slice none 0 0)), (7, .val (.iface 94 (.pointer (some (er (twoErr xs ys)))))), (8, .val (.slice none 0 0)), (9, .val (.iface 94 (.pointer (some (er (twoErr xs ys)))))), (10, .val (.bool false)), (11, .val (.iface 94 (.pointer (some (er (twoErr xs ys)))))), (12, .val (.int .i64 0)), (13, .val (.iface 94 (.pointer (some (er (twoErr xs ys))))))]) (h1 := fun _ => []) (p1 := fun _ => []) (W1 := []) (fun _ => by kernel_rfl) (fun _ => trivial) (fun _ => ?_)
    refine JR_end ?_
    refine J_return [[]] (.bool true) (by kernel_rfl) (fun a w s => ?_)
    exact s.ret (by simp) [] [] rfl rfl
  obtain ⟨hx0, hy0, hxy⟩ := twoErr_fine hab
  refine JR_callp [] 13 #[.slice a xs.length ca] (some 34) (by kernel_rfl) (fun w S hG => ?_)
  refine (vown (hG.at 1 rfl) (by omega)).mono ?_
  rintro e22 w22 ⟨oa22, oc22, hR⟩
  refine ⟨_, _, _, hR, ?_⟩
  try simp only [List.cons_append, List.nil_append, List.append_nil]
  refine JR_run (id := 4) (rest := [(3, false), (4, false), (5, true), (6, true), (7, true), (8, true), (9, true)]) [.rd 2 [] 0 0] [0, 1, 4, 34, 35] (E1 := fun _ => [(0, .val (.slice a xs.length ca)), (1, .val (.slice b ys.length cb)), (4, .val (.bool false)), (34, .val (.slice oa22 xs.length oc22)), (35, .val (.slice b ys.length cb))]) (h1 := fun _ => []) (p1 := fun _ => []) (W1 := []) (fun _ => by kernel_rfl) (fun _ => trivial) (fun _ => ?_)
  refine JR_callp [] 13 #[.slice b ys.length cb] (some 36) (by kernel_rfl) (fun w S hG => ?_)
  refine (vown (hG.at 2 rfl) (by omega)).mono ?_
  rintro e23 w23 ⟨oa23, oc23, hR⟩
  refine ⟨_, _, _, hR, ?_⟩
  try simp only [List.cons_append, List.nil_append, List.append_nil]
  refine JR_callp [] 14 #[.slice oa22 xs.length oc22, .slice oa23 ys.length oc23] (some 37) (by kernel_rfl) (fun w S hG => ?_)
  refine (vLeast (globs_of (hG.at 0 rfl)) (hG.at 3 rfl) (hG.at 4 rfl) (by omega) (by omega)).mono ?_
  rintro e24 w24 (⟨h2, hR⟩ | ⟨h2, ra24, rn24, rc24, hR⟩)
  · exact absurd hab h2
  refine ⟨_, _, _, hR, ?_⟩
  try simp only [List.cons_append, List.nil_append, List.append_nil]
  refine JR_run (id := 4) (rest := []) [.rd 5 [] 0 0, .rd 6 [] 0 0, .rd 7 [] 0 0, .rd 8 [] 0 0, .rd 9 [] 0 0] [0, 1, 4, 6, 7] (E1 := fun _ => [(0, .val (.slice a xs.length ca)), (1, .val (.slice b ys.length cb)), (4, .val (.bool false)), (6, .val (.slice ra24 rn24 rc24)), (7, .val (.nilIface))]) (h1 := fun _ => []) (p1 := fun _ => []) (W1 := []) (fun _ => by kernel_rfl) (fun _ => trivial) (fun _ => ?_)
  refine JR_end ?_
  refine J_seq ?_
  refine JR_begin mixed [(0, true), (1, false), (2, true), (3, false), (4, false), (5, true), (6, true), (7, true), (8, true), (9, true)] [] (by kernel_rfl) (by kernel_rfl) ?_
  refine JR_run (id := 5) (rest := [(1, false), (2, true), (3, false), (4, false), (5, true), (6, true), (7, true), (8, true), (9, true)]) [.rd 0 [] 0 0] [0, 1, 4, 6, 7, 41] (E1 := fun _ => [(0, .val (.slice a xs.length ca)), (1, .val (.slice b ys.length cb)), (4, .val (.bool false)), (6, .val (.slice ra24 rn24 rc24)), (7, .val (.nilIface)), (41, .val (.slice a xs.length ca))]) (h1 := fun _ => []) (p1 := fun _ => []) (W1 := []) (fun _ => by kernel_rfl) (fun _ => trivial) (fun _ => ?_)
  refine JR_callp [] 13 #[.slice a xs.length ca] (some 42) (by kernel_rfl) (fun w S hG => ?_)
  refine (vown (hG.at 1 rfl) (by omega)).mono ?_
  rintro e25 w25 ⟨oa25, oc25, hR⟩
  refine ⟨_, _, _, hR, ?_⟩
  try simp only [List.cons_append, List.nil_append, List.append_nil]
  refine JR_run (id := 5) (rest := [(3, false), (4, false), (5, true), (6, true), (7, true), (8, true), (9, true)]) [.rd 2 [] 0 0] [0, 1, 4, 6, 7, 42, 43] (E1 := fun _ => [(0, .val (.slice a xs.length ca)), (1, .val (.slice b ys.length cb)), (4, .val (.bool false)), (6, .val (.slice ra24 rn24 rc24)), (7, .val (.nilIface)), (42, .val (.slice oa25 xs.length oc25)), (43, .val (.slice b ys.length cb))]) (h1 := fun _ => []) (p1 := fun _ => []) (W1 := []) (fun _ => by kernel_rfl) (fun _ => trivial) (fun _ => ?_)
  refine JR_callp [] 13 #[.slice b ys.length cb] (some 44) (by kernel_rfl) (fun w S hG => ?_)
  refine (vown (hG.at 2 rfl) (by omega)).mono ?_
  rintro e26 w26 ⟨oa26, oc26, hR⟩
  refine ⟨_, _, _, hR, ?_⟩
  try simp only [List.cons_append, List.nil_append, List.append_nil]
  refine JR_callp [] 12 #[.slice oa25 xs.length oc25, .slice oa26 ys.length oc26] (some 45) (by kernel_rfl) (fun w S hG => ?_)
  refine (vMost (globs_of (hG.at 0 rfl)) (hG.at 6 rfl) (hG.at 7 rfl) (by omega) (by omega)).mono ?_
  rintro e27 w27 (⟨h2, hR⟩ | ⟨h2, ra27, rn27, rc27, hR⟩)
  · exact absurd hab h2
  refine ⟨_, _, _, hR, ?_⟩
  try simp only [List.cons_append, List.nil_append, List.append_nil]
  refine JR_run (id := 5) (rest := []) [.rd 5 [] 0 0, .rd 6 [] 0 0, .rd 7 [] 0 0, .rd 8 [] 0 0, .rd 9 [] 0 0] [0, 1, 4, 6, 7, 8, 9] (E1 := fun _ => [(0, .val (.slice a xs.length ca)), (1, .val (.slice b ys.length cb)), (4, .val (.bool false)), (6, .val (.slice ra24 rn24 rc24)), (7, .val (.nilIface)), (8, .val (.slice ra27 rn27 rc27)), (9, .val (.nilIface))]) (h1 := fun _ => []) (p1 := fun _ => []) (W1 := []) (fun _ => by kernel_rfl) (fun _ => trivial) (fun _ => ?_)
  refine JR_end ?_
  refine J_seq ?_
  refine JR_begin mixed [(0, true), (1, false), (2, true), (3, false), (4, false), (5, true), (6, true), (7, true), (8, true), (9, true)] [] (by kernel_rfl) (by kernel_rfl) ?_
  refine JR_run (id := 6) (rest := [(1, false), (2, true), (3, false), (4, false), (5, true), (6, true), (7, true), (8, true), (9, true)]) [.rd 0 [] 0 0] [0, 1, 4, 6, 7, 8, 9, 49] (E1 := fun _ => [(0, .val (.slice a xs.length ca)), (1, .val (.slice b ys.length cb)), (4, .val (.bool false)), (6, .val (.slice ra24 rn24 rc24)), (7, .val (.nilIface)), (8, .val (.slice ra27 rn27 rc27)), (9, .val (.nilIface)), (49, .val (.slice a xs.length ca))]) (h1 := fun _ => []) (p1 := fun _ => []) (W1 := []) (fun _ => by kernel_rfl) (fun _ => trivial) (fun _ => ?_)
  refine JR_callp [] 13 #[.slice a xs.length ca] (some 50) (by kernel_rfl) (fun w S hG => ?_)
  refine (vown (hG.at 1 rfl) (by omega)).mono ?_
  rintro e28 w28 ⟨oa28, oc28, hR⟩
  refine ⟨_, _, _, hR, ?_⟩
  try simp only [List.cons_append, List.nil_append, List.append_nil]
  refine JR_run (id := 6) (rest := [(3, false), (4, false), (5, true), (6, true), (7, true), (8, true), (9, true)]) [.rd 2 [] 0 0] [0, 1, 4, 6, 7, 8, 9, 50, 51] (E1 := fun _ => [(0, .val (.slice a xs.length ca)), (1, .val (.slice b ys.length cb)), (4, .val (.bool false)), (6, .val (.slice ra24 rn24 rc24)), (7, .val (.nilIface)), (8, .val (.slice ra27 rn27 rc27)), (9, .val (.nilIface)), (50, .val (.slice oa28 xs.length oc28)), (51, .val (.slice b ys.length cb))]) (h1 := fun _ => []) (p1 := fun _ => []) (W1 := []) (fun _ => by kernel_rfl) (fun _ => trivial) (fun _ => ?_)
  refine JR_callp [] 13 #[.slice b ys.length cb] (some 52) (by kernel_rfl) (fun w S hG => ?_)
  refine (vown (hG.at 2 rfl) (by omega)).mono ?_
  rintro e29 w29 ⟨oa29, oc29, hR⟩
  refine ⟨_, _, _, hR, ?_⟩
  try simp only [List.cons_append, List.nil_append, List.append_nil]
  refine JR_callp [] 15 #[.slice oa28 xs.length oc28, .slice oa29 ys.length oc29] (some 53) (by kernel_rfl) (fun w S hG => ?_)
  refine (vwithin (globs_of (hG.at 0 rfl)) (hG.at 9 rfl) (hG.at 10 rfl) (by omega) (by omega)).mono ?_
  rintro e30 w30 (⟨h2, hR⟩ | ⟨h2, hR⟩)
  · exact absurd hab h2
  refine ⟨_, _, _, hR, ?_⟩
  try simp only [List.cons_append, List.nil_append, List.append_nil]
  refine JR_run (id := 6) (rest := []) [.rd 5 [] 0 0, .rd 6 [] 0 0, .rd 7 [] 0 0, .rd 8 [] 0 0, .rd 9 [] 0 0] [0, 1, 4, 6, 7, 8, 9, 10, 11] (E1 := fun _ => [(0, .val (.slice a xs.length ca)), (1, .val (.slice b ys.length cb)), (4, .val (.bool false)), (6, .val (.slice ra24 rn24 rc24)), (7, .val (.nilIface)), (8, .val (.slice ra27 rn27 rc27)), (9, .val (.nilIface)), (10, .val (.bool (inL xs ys))), (11, .val (.nilIface))]) (h1 := fun _ => []) (p1 := fun _ => []) (W1 := []) (fun _ => by kernel_rfl) (fun _ => trivial) (fun _ => ?_)
  refine JR_end ?_
  refine J_seq ?_
  refine JR_begin mixed [(0, true), (1, false), (2, true), (3, false), (4, false), (5, true), (6, true), (7, true), (8, true), (9, true)] [] (by kernel_rfl) (by kernel_rfl) ?_
  refine JR_run (id := 7) (rest := [(1, false), (2, true), (3, false), (4, false), (5, true), (6, true), (7, true), (8, true), (9, true)]) [.rd 0 [] 0 0] [0, 1, 4, 6, 7, 8, 9, 10, 11, 57] (E1 := fun _ => [(0, .val (.slice a xs.length ca)), (1, .val (.slice b ys.length cb)), (4, .val (.bool false)), (6, .val (.slice ra24 rn24 rc24)), (7, .val (.nilIface)), (8, .val (.slice ra27 rn27 rc27)), (9, .val (.nilIface)), (10, .val (.bool (inL xs ys))), (11, .val (.nilIface)), (57, .val (.slice a xs.length ca))]) (h1 := fun _ => []) (p1 := fun _ => []) (W1 := []) (fun _ => by kernel_rfl) (fun _ => trivial) (fun _ => ?_)
  refine JR_callp [] 13 #[.slice a xs.length ca] (some 58) (by kernel_rfl) (fun w S hG => ?_)
  refine (vown (hG.at 1 rfl) (by omega)).mono ?_
  rintro e31 w31 ⟨oa31, oc31, hR⟩
  refine ⟨_, _, _, hR, ?_⟩
  try simp only [List.cons_append, List.nil_append, List.append_nil]
  refine JR_run (id := 7) (rest := [(3, false), (4, false), (5, true), (6, true), (7, true), (8, true), (9, true)]) [.rd 2 [] 0 0] [0, 1, 4, 6, 7, 8, 9, 10, 11, 58, 59] (E1 := fun _ => [(0, .val (.slice a xs.length ca)), (1, .val (.slice b ys.length cb)), (4, .val (.bool false)), (6, .val (.slice ra24 rn24 rc24)), (7, .val (.nilIface)), (8, .val (.slice ra27 rn27 rc27)), (9, .val (.nilIface)), (10, .val (.bool (inL xs ys))), (11, .val (.nilIface)), (58, .val (.slice oa31 xs.length oc31)), (59, .val (.slice b ys.length cb))]) (h1 := fun _ => []) (p1 := fun _ => []) (W1 := []) (fun _ => by kernel_rfl) (fun _ => trivial) (fun _ => ?_)
  refine JR_callp [] 13 #[.slice b ys.length cb] (some 60) (by kernel_rfl) (fun w S hG => ?_)
  refine (vown (hG.at 2 rfl) (by omega)).mono ?_
  rintro e32 w32 ⟨oa32, oc32, hR⟩
  refine ⟨_, _, _, hR, ?_⟩
  try simp only [List.cons_append, List.nil_append, List.append_nil]
  refine JR_callp [] 18 #[.slice oa31 xs.length oc31, .slice oa32 ys.length oc32] (some 61) (by kernel_rfl) (fun w S hG => ?_)
  refine (vorder (globs_of (hG.at 0 rfl)) (hG.at 11 rfl) (hG.at 12 rfl) (by omega) (by omega)).mono ?_
  rintro e33 w33 (⟨h2, hR⟩ | ⟨h2, hR⟩)
  · exact absurd hab h2
  refine ⟨_, _, _, hR, ?_⟩
  try simp only [List.cons_append, List.nil_append, List.append_nil]
  refine JR_run (id := 7) (rest := []) [.rd 5 [] 0 0, .rd 6 [] 0 0, .rd 7 [] 0 0, .rd 8 [] 0 0, .rd 9 [] 0 0] [0, 1, 4, 6, 7, 8, 9, 10, 11, 12, 13] (E1 := fun _ => [(0, .val (.slice a xs.length ca)), (1, .val (.slice b ys.length cb)), (4, .val (.bool false)), (6, .val (.slice ra24 rn24 rc24)), (7, .val (.nilIface)), (8, .val (.slice ra27 rn27 rc27)), (9, .val (.nilIface)), (10, .val (.bool (inL xs ys))), (11, .val (.nilIface)), (12, .val (.int .i64 (ordL xs ys))), (13, .val (.nilIface))]) (h1 := fun _ => []) (p1 := fun _ => []) (W1 := []) (fun _ => by kernel_rfl) (fun _ => trivial) (fun _ => ?_)
  refine JR_end ?_
  refine J_seq ?_
  refine JR_begin mixed [(0, true), (1, true), (2, false), (3, true)] [] (by kernel_rfl) (by kernel_rfl) ?_
  refine JR_run (id := 8) (rest := [(2, false), (3, true)]) [.rd 0 [] 0 0, .rd 1 [] 0 0] [0, 1, 4, 6, 7, 8, 9, 10, 11, 12, 13, 64, 65] (E1 := fun _ => [(0, .val (.slice a xs.length ca)), (1, .val (.slice b ys.length cb)), (4, .val (.bool false)), (6, .val (.slice ra24 rn24 rc24)), (7, .val (.nilIface)), (8, .val (.slice ra27 rn27 rc27)), (9, .val (.nilIface)), (10, .val (.bool (inL xs ys))), (11, .val (.nilIface)), (12, .val (.int .i64 (ordL xs ys))), (13, .val (.nilIface)), (64, .val (.slice a xs.length ca)), (65, .val (.slice b ys.length cb))]) (h1 := fun _ => []) (p1 := fun _ => []) (W1 := []) (fun _ => by kernel_rfl) (fun _ => trivial) (fun _ => ?_)
  refine JR_callp [] 19 #[.slice a xs.length ca, .slice b ys.length cb] (some 66) (by kernel_rfl) (fun w S hG => ?_)
  refine (rTwoErr (hG.at 1 rfl) (hG.at 2 rfl) (by omega) (by omega)).mono ?_
  rintro e34 w34 hR
  rw [hab] at hR
  refine ⟨_, _, _, hR, ?_⟩
  try simp only [List.cons_append, List.nil_append, List.append_nil]
  refine JR_run (id := 8) (rest := []) [.rd 3 [] 0 0] [0, 1, 4, 6, 7, 8, 9, 10, 11, 12, 13, 14] (E1 := fun _ => [(0, .val (.slice a xs.length ca)), (1, .val (.slice b ys.length cb)), (4, .val (.bool false)), (6, .val (.slice ra24 rn24 rc24)), (7, .val (.nilIface)), (8, .val (.slice ra27 rn27 rc27)), (9, .val (.nilIface)), (10, .val (.bool (inL xs ys))), (11, .val (.nilIface)), (12, .val (.int .i64 (ordL xs ys))), (13, .val (.nilIface)), (14, .val (.int .i64 0))]) (h1 := fun _ => []) (p1 := fun _ => []) (W1 := []) (fun _ => by kernel_rfl) (fun _ => trivial) (fun _ => ?_)
  refine JR_end ?_
  refine J_seq ?_
  refine J_seq ?_
  refine JR_begin mixed [(0, true), (1, false), (2, false), (3, true), (4, false), (5, false), (6, true)] [] (by kernel_rfl) (by kernel_rfl) ?_
  refine JR_run (id := 9) (rest := [(1, false), (2, false), (3, true), (4, false), (5, false), (6, true)]) [.rd 0 [] 0 0] [0, 1, 4, 6, 7, 8, 9, 10, 11, 12, 13, 14, 67] (E1 := fun _ => [(0, .val (.slice a xs.length ca)), (1, .val (.slice b ys.length cb)), (4, .val (.bool false)), (6, .val (.slice ra24 rn24 rc24)), (7, .val (.nilIface)), (8, .val (.slice ra27 rn27 rc27)), (9, .val (.nilIface)), (10, .val (.bool (inL xs ys))), (11, .val (.nilIface)), (12, .val (.int .i64 (ordL xs ys))), (13, .val (.nilIface)), (14, .val (.int .i64 0)), (67, .val (.slice a xs.length ca))]) (h1 := fun _ => []) (p1 := fun _ => []) (W1 := []) (fun _ => by kernel_rfl) (fun _ => trivial) (fun _ => ?_)
  refine JR_callp [] 13 #[.slice a xs.length ca] (some 68) (by kernel_rfl) (fun w S hG => ?_)
  refine (vown (hG.at 1 rfl) (by omega)).mono ?_
  rintro e35 w35 ⟨oa35, oc35, hR⟩
  refine ⟨_, _, _, hR, ?_⟩
  try simp only [List.cons_append, List.nil_append, List.append_nil]
  refine JR_callp [] 21 #[.slice oa35 xs.length oc35] (some 69) (by kernel_rfl) (fun w S hG => ?_)
  refine (vcheck (globs_of (hG.at 0 rfl)) (hG.at 13 rfl) (by omega)).mono ?_
  rintro e36 w36 ⟨v36, hR, hv⟩
  refine ⟨_, _, _, hR, ?_⟩
  try simp only [List.cons_append, List.nil_append, List.append_nil]
  refine JR_run (id := 9) (rest := [(4, false), (5, false), (6, true)]) [.rd 3 [] 0 0] [0, 1, 4, 6, 7, 8, 9, 10, 11, 12, 13, 14, 69, 70] (E1 := fun _ => [(0, .val (.slice a xs.length ca)), (1, .val (.slice b ys.length cb)), (4, .val (.bool false)), (6, .val (.slice ra24 rn24 rc24)), (7, .val (.nilIface)), (8, .val (.slice ra27 rn27 rc27)), (9, .val (.nilIface)), (10, .val (.bool (inL xs ys))), (11, .val (.nilIface)), (12, .val (.int .i64 (ordL xs ys))), (13, .val (.nilIface)), (14, .val (.int .i64 0)), (69, .val (v36)), (70, .val (.slice a xs.length ca))]) (h1 := fun _ => []) (p1 := fun _ => []) (W1 := []) (fun _ => by kernel_rfl) (fun _ => trivial) (fun _ => ?_)
  refine JR_callp [] 22 #[.slice a xs.length ca] (some 71) (by kernel_rfl) (fun w S hG => ?_)
  refine (rVecErr (hG.at 1 rfl) (by omega)).mono ?_
  rintro e37 w37 hR
  refine ⟨_, _, _, hR, ?_⟩
  try simp only [List.cons_append, List.nil_append, List.append_nil]
  refine JR_callp [] 20 #[v36, .int .i64 ((↑(vecErr xs) : Int))] (some 72) (by kernel_rfl) (fun w S hG => ?_)
  refine (codedErr (hG.at 0 rfl) hI (k := vecErr xs) (by have := vecErr_le xs; omega) hv).mono ?_
  rintro e38 w38 hR
  rw [decide_eq_true rfl] at hR
  refine ⟨_, _, _, hR, ?_⟩
  try simp only [List.cons_append, List.nil_append, List.append_nil]
  refine JR_run (id := 9) (rest := []) [.rd 6 [] 0 0] [0, 1, 4, 6, 7, 8, 9, 10, 11, 12, 13, 14, 73] (E1 := fun _ => [(0, .val (.slice a xs.length ca)), (1, .val (.slice b ys.length cb)), (4, .val (.bool false)), (6, .val (.slice ra24 rn24 rc24)), (7, .val (.nilIface)), (8, .val (.slice ra27 rn27 rc27)), (9, .val (.nilIface)), (10, .val (.bool (inL xs ys))), (11, .val (.nilIface)), (12, .val (.int .i64 (ordL xs ys))), (13, .val (.nilIface)), (14, .val (.int .i64 0)), (73, .val (.bool false))]) (h1 := fun _ => []) (p1 := fun _ => []) (W1 := []) (fun _ => by kernel_rfl) (fun _ => trivial) (fun _ => ?_)
  refine JR_end ?_
  refine J_cond_f (by kernel_rfl) (by kernel_rfl) ?_
  refine J_skip ?_
  refine J_seq ?_
  refine J_seq ?_
  refine J_reg mixed [.rd 0 [] 0 0, .rd 1 [] 0 0] [] [0, 1, 4, 6, 7, 8, 9, 10, 11, 12, 13, 14, 75] (E1 := fun _ => [(0, .val (.slice a xs.length ca)), (1, .val (.slice b ys.length cb)), (4, .val (.bool false)), (6, .val (.slice ra24 rn24 rc24)), (7, .val (.nilIface)), (8, .val (.slice ra27 rn27 rc27)), (9, .val (.nilIface)), (10, .val (.bool (inL xs ys))), (11, .val (.nilIface)), (12, .val (.int .i64 (ordL xs ys))), (13, .val (.nilIface)), (14, .val (.int .i64 0)), (75, .val (.bool false))]) (h1 := fun _ => []) (p1 := fun _ => []) (W1 := []) (by kernel_rfl) (fun _ => by kernel_rfl) (fun _ => trivial) (fun _ => ?_)
  refine J_cond_f (by kernel_rfl) (by kernel_rfl) ?_
  refine J_skip ?_
  refine J_seq ?_
  refine J_seq ?_
  refine J_reg mixed [.rd 0 [] 0 0, .rd 1 [] 0 0, .rd 2 [] 0 0, .rd 3 [] 0 0, .rd 4 [] 0 0, .rd 5 [] 0 0, .rd 6 [] 0 0, .rd 7 [] 0 0, .rd 8 [] 0 0, .rd 9 [] 0 0, .rd 10 [] 0 0, .rd 11 [] 0 0, .rd 12 [] 0 0, .rd 13 [] 0 0] [] [0, 1, 4, 6, 8, 10, 12, 121] (E1 := fun _ => [(0, .val (.slice a xs.length ca)), (1, .val (.slice b ys.length cb)), (4, .val (.bool false)), (6, .val (.slice ra24 rn24 rc24)), (8, .val (.slice ra27 rn27 rc27)), (10, .val (.bool (inL xs ys))), (12, .val (.int .i64 (ordL xs ys))), (121, .val (.bool false))]) (h1 := fun _ => []) (p1 := fun _ => []) (W1 := []) (by kernel_rfl) (fun _ => by kernel_rfl) (fun _ => trivial) (fun _ => ?_)
  refine J_cond_f (by kernel_rfl) (by kernel_rfl) ?_
  refine J_skip ?_
  refine J_seq ?_
  refine JR_begin mixed [(0, true), (1, true), (2, false), (3, true)] [] (by kernel_rfl) (by kernel_rfl) ?_
  refine JR_run (id := 15) (rest := [(2, false), (3, true)]) [.rd 0 [] 0 0, .rd 1 [] 0 0] [0, 1, 4, 6, 8, 10, 12, 122, 123] (E1 := fun _ => [(0, .val (.slice a xs.length ca)), (1, .val (.slice b ys.length cb)), (4, .val (.bool false)), (6, .val (.slice ra24 rn24 rc24)), (8, .val (.slice ra27 rn27 rc27)), (10, .val (.bool (inL xs ys))), (12, .val (.int .i64 (ordL xs ys))), (122, .val (.slice a xs.length ca)), (123, .val (.slice b ys.length cb))]) (h1 := fun _ => []) (p1 := fun _ => []) (W1 := []) (fun _ => by kernel_rfl) (fun _ => trivial) (fun _ => ?_)
  refine JR_callp [] 23 #[.slice a xs.length ca, .slice b ys.length cb] (some 124) (by kernel_rfl) (fun w S hG => ?_)
  refine (rIn (hG.at 1 rfl) (hG.at 2 rfl) (by omega) hxy).mono ?_
  rintro e39 w39 hR
  refine ⟨_, _, _, hR, ?_⟩
  try simp only [List.cons_append, List.nil_append, List.append_nil]
  refine JR_run (id := 15) (rest := []) [.rd 3 [] 0 0] [0, 1, 4, 6, 8, 10, 12, 15] (E1 := fun _ => [(0, .val (.slice a xs.length ca)), (1, .val (.slice b ys.length cb)), (4, .val (.bool false)), (6, .val (.slice ra24 rn24 rc24)), (8, .val (.slice ra27 rn27 rc27)), (10, .val (.bool (inL xs ys))), (12, .val (.int .i64 (ordL xs ys))), (15, .val (.bool (inL xs ys)))]) (h1 := fun _ => []) (p1 := fun _ => []) (W1 := []) (fun _ => by kernel_rfl) (fun _ => trivial) (fun _ => ?_)
  refine JR_end ?_
  refine J_seq ?_
  refine JR_begin mixed [(0, true), (1, true), (2, false), (3, true)] [] (by kernel_rfl) (by kernel_rfl) ?_
  refine JR_run (id := 16) (rest := [(2, false), (3, true)]) [.rd 0 [] 0 0, .rd 1 [] 0 0] [0, 1, 4, 6, 8, 10, 12, 15, 125, 126] (E1 := fun _ => [(0, .val (.slice a xs.length ca)), (1, .val (.slice b ys.length cb)), (4, .val (.bool false)), (6, .val (.slice ra24 rn24 rc24)), (8, .val (.slice ra27 rn27 rc27)), (10, .val (.bool (inL xs ys))), (12, .val (.int .i64 (ordL xs ys))), (15, .val (.bool (inL xs ys))), (125, .val (.slice b ys.length cb)), (126, .val (.slice a xs.length ca))]) (h1 := fun _ => []) (p1 := fun _ => []) (W1 := []) (fun _ => by kernel_rfl) (fun _ => trivial) (fun _ => ?_)
  refine JR_callp [] 23 #[.slice b ys.length cb, .slice a xs.length ca] (some 127) (by kernel_rfl) (fun w S hG => ?_)
  refine (rIn (hG.at 2 rfl) (hG.at 1 rfl) (by omega) hxy.symm).mono ?_
  rintro e40 w40 hR
  refine ⟨_, _, _, hR, ?_⟩
  try simp only [List.cons_append, List.nil_append, List.append_nil]
  refine JR_run (id := 16) (rest := []) [.rd 3 [] 0 0] [0, 1, 4, 6, 8, 10, 12, 15, 16] (E1 := fun _ => [(0, .val (.slice a xs.length ca)), (1, .val (.slice b ys.length cb)), (4, .val (.bool false)), (6, .val (.slice ra24 rn24 rc24)), (8, .val (.slice ra27 rn27 rc27)), (10, .val (.bool (inL xs ys))), (12, .val (.int .i64 (ordL xs ys))), (15, .val (.bool (inL xs ys))), (16, .val (.bool (inL ys xs)))]) (h1 := fun _ => []) (p1 := fun _ => []) (W1 := []) (fun _ => by kernel_rfl) (fun _ => trivial) (fun _ => ?_)
  refine JR_end ?_
  refine J_seq ?_
  rcases hin : inL xs ys with _ | _ <;> rcases hback : inL ys xs with _ | _
  · skip
    have ho : ordL xs ys = 2 := by simp [ordL, hin, hback]
    rw [ho]
    refine J_reg mixed [.rd 0 [] 0 0] [] [0, 1, 4, 6, 8, 10, 12, 15, 16, 17] (E1 := fun _ => [(0, .val (.slice a xs.length ca)), (1, .val (.slice b ys.length cb)), (4, .val (.bool false)), (6, .val (.slice ra24 rn24 rc24)), (8, .val (.slice ra27 rn27 rc27)), (10, .val (.bool false)), (12, .val (.int .i64 2)), (15, .val (.bool false)), (16, .val (.bool false)), (17, .val (.int .i64 2))]) (h1 := fun _ => []) (p1 := fun _ => []) (W1 := []) (by kernel_rfl) (fun _ => by kernel_rfl) (fun _ => trivial) (fun _ => ?_)
    refine J_seq ?_
    refine J_seq ?_
    refine J_reg mixed [.rd 0 [] 0 0] [] [0, 1, 4, 6, 8, 10, 12, 15, 16, 17, 128] (E1 := fun _ => [(0, .val (.slice a xs.length ca)), (1, .val (.slice b ys.length cb)), (4, .val (.bool false)), (6, .val (.slice ra24 rn24 rc24)), (8, .val (.slice ra27 rn27 rc27)), (10, .val (.bool false)), (12, .val (.int .i64 2)), (15, .val (.bool false)), (16, .val (.bool false)), (17, .val (.int .i64 2)), (128, .val (.bool false))]) (h1 := fun _ => []) (p1 := fun _ => []) (W1 := []) (by kernel_rfl) (fun _ => by kernel_rfl) (fun _ => trivial) (fun _ => ?_)
    refine J_cond_f (by kernel_rfl) (by kernel_rfl) ?_
    refine J_skip ?_
    refine J_seq ?_
    refine J_seq ?_
    refine J_reg mixed [.rd 0 [] 0 0] [] [0, 1, 4, 6, 8, 10, 12, 15, 16, 17, 129] (E1 := fun _ => [(0, .val (.slice a xs.length ca)), (1, .val (.slice b ys.length cb)), (4, .val (.bool false)), (6, .val (.slice ra24 rn24 rc24)), (8, .val (.slice ra27 rn27 rc27)), (10, .val (.bool false)), (12, .val (.int .i64 2)), (15, .val (.bool false)), (16, .val (.bool false)), (17, .val (.int .i64 2)), (129, .val (.bool false))]) (h1 := fun _ => []) (p1 := fun _ => []) (W1 := []) (by kernel_rfl) (fun _ => by kernel_rfl) (fun _ => trivial) (fun _ => ?_)
    refine J_cond_f (by kernel_rfl) (by kernel_rfl) ?_
    refine J_skip ?_
    refine J_seq ?_
    refine J_seq ?_
    refine J_reg mixed [.rd 0 [] 0 0, .rd 1 [] 0 0, .rd 2 [] 1 0, .rd 3 [] 0 0] [] [0, 1, 4, 6, 8, 10, 12, 15, 17, 133] (E1 := fun _ => [(0, .val (.slice a xs.length ca)), (1, .val (.slice b ys.length cb)), (4, .val (.bool false)), (6, .val (.slice ra24 rn24 rc24)), (8, .val (.slice ra27 rn27 rc27)), (10, .val (.bool false)), (12, .val (.int .i64 2)), (15, .val (.bool false)), (17, .val (.int .i64 2)), (133, .val (.bool false))]) (h1 := fun _ => []) (p1 := fun _ => []) (W1 := []) (by kernel_rfl) (fun _ => by kernel_rfl) (fun _ => trivial) (fun _ => ?_)
    refine J_cond_f (by kernel_rfl) (by kernel_rfl) ?_
    refine J_skip ?_
    refine J_seq ?_
    refine JR_begin mixed [(0, true), (1, true), (2, true), (3, false), (4, false), (5, true), (6, true), (7, true), (8, true), (9, false), (10, false), (11, true), (12, true), (13, true), (14, true), (15, true), (16, true), (17, true), (18, true), (19, true), (20, true), (21, true), (22, true)] [] (by kernel_rfl) (by kernel_rfl) ?_
    refine JR_run (id := 24) (rest := [(3, false), (4, false), (5, true), (6, true), (7, true), (8, true), (9, false), (10, false), (11, true), (12, true), (13, true), (14, true), (15, true), (16, true), (17, true), (18, true), (19, true), (20, true), (21, true), (22, true)]) [.rd 0 [] 0 0, .rd 1 [] 0 0, .rd 2 [] 0 0] [0, 1, 4, 8, 10, 12, 15, 17, 134, 135, 136] (E1 := fun _ => [(0, .val (.slice a xs.length ca)), (1, .val (.slice b ys.length cb)), (4, .val (.bool false)), (8, .val (.slice ra27 rn27 rc27)), (10, .val (.bool false)), (12, .val (.int .i64 2)), (15, .val (.bool false)), (17, .val (.int .i64 2)), (134, .val (.slice ra24 rn24 rc24)), (135, .val (.slice a xs.length ca)), (136, .val (.slice b ys.length cb))]) (h1 := fun _ => []) (p1 := fun _ => []) (W1 := []) (fun _ => by kernel_rfl) (fun _ => trivial) (fun _ => ?_)
    refine JR_callp [] 24 #[.slice a xs.length ca, .slice b ys.length cb] (some 137) (by kernel_rfl) (fun w S hG => ?_)
    refine (rLeast (hG.at 1 rfl) (hG.at 2 rfl) (by omega) hxy).mono ?_
    rintro e41 w41 ⟨qa41, qn41, qc41, hR⟩
    refine ⟨_, _, _, hR, ?_⟩
    try simp only [List.cons_append, List.nil_append, List.append_nil]
    refine JR_callp [] 16 #[.slice ra24 rn24 rc24, .slice qa41 qn41 qc41] (some 138) (by kernel_rfl) (fun w S hG => ?_)
    refine (sameInts (hG.at 5 rfl) (hG.at 14 rfl) (by simp; omega)).mono ?_
    rintro e42 w42 hR
    rw [decide_eq_true rfl] at hR
    refine ⟨_, _, _, hR, ?_⟩
    try simp only [List.cons_append, List.nil_append, List.append_nil]
    refine JR_run (id := 24) (rest := [(9, false), (10, false), (11, true), (12, true), (13, true), (14, true), (15, true), (16, true), (17, true), (18, true), (19, true), (20, true), (21, true), (22, true)]) [.rd 5 [] 0 0, .rd 6 [] 0 0, .rd 7 [] 0 0, .rd 8 [] 0 0] [4, 10, 12, 15, 17, 139, 140, 141, 142] (E1 := fun _ => [(4, .val (.bool false)), (10, .val (.bool false)), (12, .val (.int .i64 2)), (15, .val (.bool false)), (17, .val (.int .i64 2)), (139, .val (.bool true)), (140, .val (.slice ra27 rn27 rc27)), (141, .val (.slice a xs.length ca)), (142, .val (.slice b ys.length cb))]) (h1 := fun _ => []) (p1 := fun _ => []) (W1 := []) (fun _ => by kernel_rfl) (fun _ => trivial) (fun _ => ?_)
    refine JR_callp [] 25 #[.slice a xs.length ca, .slice b ys.length cb] (some 143) (by kernel_rfl) (fun w S hG => ?_)
    refine (rMost (hG.at 1 rfl) (hG.at 2 rfl) (by omega) hxy).mono ?_
    rintro e43 w43 ⟨qa43, qn43, qc43, hR⟩
    refine ⟨_, _, _, hR, ?_⟩
    try simp only [List.cons_append, List.nil_append, List.append_nil]
    refine JR_callp [] 16 #[.slice ra27 rn27 rc27, .slice qa43 qn43 qc43] (some 144) (by kernel_rfl) (fun w S hG => ?_)
    refine (sameInts (hG.at 8 rfl) (hG.at 15 rfl) (by simp; omega)).mono ?_
    rintro e44 w44 hR
    rw [decide_eq_true rfl] at hR
    refine ⟨_, _, _, hR, ?_⟩
    try simp only [List.cons_append, List.nil_append, List.append_nil]
    refine JR_run (id := 24) (rest := []) [.rd 11 [] 0 0, .rd 12 [] 0 0, .rd 13 [] 0 0, .rd 14 [] 0 0, .rd 15 [] 0 0, .rd 16 [] 0 0, .rd 17 [] 0 0, .rd 18 [] 0 0, .rd 19 [] 0 0, .rd 20 [] 0 0, .rd 21 [] 0 0, .rd 22 [] 0 0] [4] (E1 := fun _ => [(4, .val (.bool true))]) (h1 := fun _ => []) (p1 := fun _ => []) (W1 := []) (fun _ => by kernel_rfl) (fun _ => trivial) (fun _ => ?_)
    refine JR_end ?_
    refine J_return [[]] (.bool true) (by kernel_rfl) (fun a w s => ?_)
    exact s.ret (by simp) [] [] rfl rfl
  · skip
    have ho : ordL xs ys = 1 := by simp [ordL, hin, hback]
    rw [ho]
    refine J_reg mixed [.rd 0 [] 0 0] [] [0, 1, 4, 6, 8, 10, 12, 15, 16, 17] (E1 := fun _ => [(0, .val (.slice a xs.length ca)), (1, .val (.slice b ys.length cb)), (4, .val (.bool false)), (6, .val (.slice ra24 rn24 rc24)), (8, .val (.slice ra27 rn27 rc27)), (10, .val (.bool false)), (12, .val (.int .i64 1)), (15, .val (.bool false)), (16, .val (.bool true)), (17, .val (.int .i64 2))]) (h1 := fun _ => []) (p1 := fun _ => []) (W1 := []) (by kernel_rfl) (fun _ => by kernel_rfl) (fun _ => trivial) (fun _ => ?_)
    refine J_seq ?_
    refine J_seq ?_
    refine J_reg mixed [.rd 0 [] 0 0] [] [0, 1, 4, 6, 8, 10, 12, 15, 16, 17, 128] (E1 := fun _ => [(0, .val (.slice a xs.length ca)), (1, .val (.slice b ys.length cb)), (4, .val (.bool false)), (6, .val (.slice ra24 rn24 rc24)), (8, .val (.slice ra27 rn27 rc27)), (10, .val (.bool false)), (12, .val (.int .i64 1)), (15, .val (.bool false)), (16, .val (.bool true)), (17, .val (.int .i64 2)), (128, .val (.bool false))]) (h1 := fun _ => []) (p1 := fun _ => []) (W1 := []) (by kernel_rfl) (fun _ => by kernel_rfl) (fun _ => trivial) (fun _ => ?_)
    refine J_cond_f (by kernel_rfl) (by kernel_rfl) ?_
    refine J_skip ?_
    refine J_seq ?_
    refine J_seq ?_
    refine J_reg mixed [.rd 0 [] 0 0] [] [0, 1, 4, 6, 8, 10, 12, 15, 16, 17, 129] (E1 := fun _ => [(0, .val (.slice a xs.length ca)), (1, .val (.slice b ys.length cb)), (4, .val (.bool false)), (6, .val (.slice ra24 rn24 rc24)), (8, .val (.slice ra27 rn27 rc27)), (10, .val (.bool false)), (12, .val (.int .i64 1)), (15, .val (.bool false)), (16, .val (.bool true)), (17, .val (.int .i64 2)), (129, .val (.bool true))]) (h1 := fun _ => []) (p1 := fun _ => []) (W1 := []) (by kernel_rfl) (fun _ => by kernel_rfl) (fun _ => trivial) (fun _ => ?_)
    refine J_cond_t (by kernel_rfl) (by kernel_rfl) ?_
    refine J_reg mixed [.rd 0 [] 0 0] [] [0, 1, 4, 6, 8, 10, 12, 15, 16, 17] (E1 := fun _ => [(0, .val (.slice a xs.length ca)), (1, .val (.slice b ys.length cb)), (4, .val (.bool false)), (6, .val (.slice ra24 rn24 rc24)), (8, .val (.slice ra27 rn27 rc27)), (10, .val (.bool false)), (12, .val (.int .i64 1)), (15, .val (.bool false)), (16, .val (.bool true)), (17, .val (.int .i64 1))]) (h1 := fun _ => []) (p1 := fun _ => []) (W1 := []) (by kernel_rfl) (fun _ => by kernel_rfl) (fun _ => trivial) (fun _ => ?_)
    refine J_seq ?_
    refine J_seq ?_
    refine J_reg mixed [.rd 0 [] 0 0, .rd 1 [] 0 0, .rd 2 [] 1 0, .rd 3 [] 0 0] [] [0, 1, 4, 6, 8, 10, 12, 15, 17, 133] (E1 := fun _ => [(0, .val (.slice a xs.length ca)), (1, .val (.slice b ys.length cb)), (4, .val (.bool false)), (6, .val (.slice ra24 rn24 rc24)), (8, .val (.slice ra27 rn27 rc27)), (10, .val (.bool false)), (12, .val (.int .i64 1)), (15, .val (.bool false)), (17, .val (.int .i64 1)), (133, .val (.bool false))]) (h1 := fun _ => []) (p1 := fun _ => []) (W1 := []) (by kernel_rfl) (fun _ => by kernel_rfl) (fun _ => trivial) (fun _ => ?_)
    refine J_cond_f (by kernel_rfl) (by kernel_rfl) ?_
    refine J_skip ?_
    refine J_seq ?_
    refine JR_begin mixed [(0, true), (1, true), (2, true), (3, false), (4, false), (5, true), (6, true), (7, true), (8, true), (9, false), (10, false), (11, true), (12, true), (13, true), (14, true), (15, true), (16, true), (17, true), (18, true), (19, true), (20, true), (21, true), (22, true)] [] (by kernel_rfl) (by kernel_rfl) ?_
    refine JR_run (id := 24) (rest := [(3, false), (4, false), (5, true), (6, true), (7, true), (8, true), (9, false), (10, false), (11, true), (12, true), (13, true), (14, true), (15, true), (16, true), (17, true), (18, true), (19, true), (20, true), (21, true), (22, true)]) [.rd 0 [] 0 0, .rd 1 [] 0 0, .rd 2 [] 0 0] [0, 1, 4, 8, 10, 12, 15, 17, 134, 135, 136] (E1 := fun _ => [(0, .val (.slice a xs.length ca)), (1, .val (.slice b ys.length cb)), (4, .val (.bool false)), (8, .val (.slice ra27 rn27 rc27)), (10, .val (.bool false)), (12, .val (.int .i64 1)), (15, .val (.bool false)), (17, .val (.int .i64 1)), (134, .val (.slice ra24 rn24 rc24)), (135, .val (.slice a xs.length ca)), (136, .val (.slice b ys.length cb))]) (h1 := fun _ => []) (p1 := fun _ => []) (W1 := []) (fun _ => by kernel_rfl) (fun _ => trivial) (fun _ => ?_)
    refine JR_callp [] 24 #[.slice a xs.length ca, .slice b ys.length cb] (some 137) (by kernel_rfl) (fun w S hG => ?_)
    refine (rLeast (hG.at 1 rfl) (hG.at 2 rfl) (by omega) hxy).mono ?_
    rintro e45 w45 ⟨qa45, qn45, qc45, hR⟩
    refine ⟨_, _, _, hR, ?_⟩
    try simp only [List.cons_append, List.nil_append, List.append_nil]
    refine JR_callp [] 16 #[.slice ra24 rn24 rc24, .slice qa45 qn45 qc45] (some 138) (by kernel_rfl) (fun w S hG => ?_)
    refine (sameInts (hG.at 5 rfl) (hG.at 14 rfl) (by simp; omega)).mono ?_
    rintro e46 w46 hR
    rw [decide_eq_true rfl] at hR
    refine ⟨_, _, _, hR, ?_⟩
    try simp only [List.cons_append, List.nil_append, List.append_nil]
    refine JR_run (id := 24) (rest := [(9, false), (10, false), (11, true), (12, true), (13, true), (14, true), (15, true), (16, true), (17, true), (18, true), (19, true), (20, true), (21, true), (22, true)]) [.rd 5 [] 0 0, .rd 6 [] 0 0, .rd 7 [] 0 0, .rd 8 [] 0 0] [4, 10, 12, 15, 17, 139, 140, 141, 142] (E1 := fun _ => [(4, .val (.bool false)), (10, .val (.bool false)), (12, .val (.int .i64 1)), (15, .val (.bool false)), (17, .val (.int .i64 1)), (139, .val (.bool true)), (140, .val (.slice ra27 rn27 rc27)), (141, .val (.slice a xs.length ca)), (142, .val (.slice b ys.length cb))]) (h1 := fun _ => []) (p1 := fun _ => []) (W1 := []) (fun _ => by kernel_rfl) (fun _ => trivial) (fun _ => ?_)
    refine JR_callp [] 25 #[.slice a xs.length ca, .slice b ys.length cb] (some 143) (by kernel_rfl) (fun w S hG => ?_)
    refine (rMost (hG.at 1 rfl) (hG.at 2 rfl) (by omega) hxy).mono ?_
    rintro e47 w47 ⟨qa47, qn47, qc47, hR⟩
    refine ⟨_, _, _, hR, ?_⟩
    try simp only [List.cons_append, List.nil_append, List.append_nil]
    refine JR_callp [] 16 #[.slice ra27 rn27 rc27, .slice qa47 qn47 qc47] (some 144) (by kernel_rfl) (fun w S hG => ?_)
    refine (sameInts (hG.at 8 rfl) (hG.at 15 rfl) (by simp; omega)).mono ?_
    rintro e48 w48 hR
    rw [decide_eq_true rfl] at hR
    refine ⟨_, _, _, hR, ?_⟩
    try simp only [List.cons_append, List.nil_append, List.append_nil]
    refine JR_run (id := 24) (rest := []) [.rd 11 [] 0 0, .rd 12 [] 0 0, .rd 13 [] 0 0, .rd 14 [] 0 0, .rd 15 [] 0 0, .rd 16 [] 0 0, .rd 17 [] 0 0, .rd 18 [] 0 0, .rd 19 [] 0 0, .rd 20 [] 0 0, .rd 21 [] 0 0, .rd 22 [] 0 0] [4] (E1 := fun _ => [(4, .val (.bool true))]) (h1 := fun _ => []) (p1 := fun _ => []) (W1 := []) (fun _ => by kernel_rfl) (fun _ => trivial) (fun _ => ?_)
    refine JR_end ?_
    refine J_return [[]] (.bool true) (by kernel_rfl) (fun a w s => ?_)
    exact s.ret (by simp) [] [] rfl rfl
  · skip
    have ho : ordL xs ys = -1 := by simp [ordL, hin, hback]
    rw [ho]
    refine J_reg mixed [.rd 0 [] 0 0] [] [0, 1, 4, 6, 8, 10, 12, 15, 16, 17] (E1 := fun _ => [(0, .val (.slice a xs.length ca)), (1, .val (.slice b ys.length cb)), (4, .val (.bool false)), (6, .val (.slice ra24 rn24 rc24)), (8, .val (.slice ra27 rn27 rc27)), (10, .val (.bool true)), (12, .val (.int .i64 (-1))), (15, .val (.bool true)), (16, .val (.bool false)), (17, .val (.int .i64 2))]) (h1 := fun _ => []) (p1 := fun _ => []) (W1 := []) (by kernel_rfl) (fun _ => by kernel_rfl) (fun _ => trivial) (fun _ => ?_)
    refine J_seq ?_
    refine J_seq ?_
    refine J_reg mixed [.rd 0 [] 0 0] [] [0, 1, 4, 6, 8, 10, 12, 15, 16, 17, 128] (E1 := fun _ => [(0, .val (.slice a xs.length ca)), (1, .val (.slice b ys.length cb)), (4, .val (.bool false)), (6, .val (.slice ra24 rn24 rc24)), (8, .val (.slice ra27 rn27 rc27)), (10, .val (.bool true)), (12, .val (.int .i64 (-1))), (15, .val (.bool true)), (16, .val (.bool false)), (17, .val (.int .i64 2)), (128, .val (.bool true))]) (h1 := fun _ => []) (p1 := fun _ => []) (W1 := []) (by kernel_rfl) (fun _ => by kernel_rfl) (fun _ => trivial) (fun _ => ?_)
    refine J_cond_t (by kernel_rfl) (by kernel_rfl) ?_
    refine J_reg mixed [.rd 0 [] 0 0] [] [0, 1, 4, 6, 8, 10, 12, 15, 16, 17] (E1 := fun _ => [(0, .val (.slice a xs.length ca)), (1, .val (.slice b ys.length cb)), (4, .val (.bool false)), (6, .val (.slice ra24 rn24 rc24)), (8, .val (.slice ra27 rn27 rc27)), (10, .val (.bool true)), (12, .val (.int .i64 (-1))), (15, .val (.bool true)), (16, .val (.bool false)), (17, .val (.int .i64 (-1)))]) (h1 := fun _ => []) (p1 := fun _ => []) (W1 := []) (by kernel_rfl) (fun _ => by kernel_rfl) (fun _ => trivial) (fun _ => ?_)
    refine J_seq ?_
    refine J_seq ?_
    refine J_reg mixed [.rd 0 [] 0 0] [] [0, 1, 4, 6, 8, 10, 12, 15, 16, 17, 129] (E1 := fun _ => [(0, .val (.slice a xs.length ca)), (1, .val (.slice b ys.length cb)), (4, .val (.bool false)), (6, .val (.slice ra24 rn24 rc24)), (8, .val (.slice ra27 rn27 rc27)), (10, .val (.bool true)), (12, .val (.int .i64 (-1))), (15, .val (.bool true)), (16, .val (.bool false)), (17, .val (.int .i64 (-1))), (129, .val (.bool false))]) (h1 := fun _ => []) (p1 := fun _ => []) (W1 := []) (by kernel_rfl) (fun _ => by kernel_rfl) (fun _ => trivial) (fun _ => ?_)
    refine J_cond_f (by kernel_rfl) (by kernel_rfl) ?_
    refine J_skip ?_
    refine J_seq ?_
    refine J_seq ?_
    refine J_reg mixed [.rd 0 [] 0 0, .rd 1 [] 0 0, .rd 2 [] 0 0, .rd 3 [] 0 0] [] [0, 1, 4, 6, 8, 10, 12, 15, 17, 133] (E1 := fun _ => [(0, .val (.slice a xs.length ca)), (1, .val (.slice b ys.length cb)), (4, .val (.bool false)), (6, .val (.slice ra24 rn24 rc24)), (8, .val (.slice ra27 rn27 rc27)), (10, .val (.bool true)), (12, .val (.int .i64 (-1))), (15, .val (.bool true)), (17, .val (.int .i64 (-1))), (133, .val (.bool false))]) (h1 := fun _ => []) (p1 := fun _ => []) (W1 := []) (by kernel_rfl) (fun _ => by kernel_rfl) (fun _ => trivial) (fun _ => ?_)
    refine J_cond_f (by kernel_rfl) (by kernel_rfl) ?_
    refine J_skip ?_
    refine J_seq ?_
    refine JR_begin mixed [(0, true), (1, true), (2, true), (3, false), (4, false), (5, true), (6, true), (7, true), (8, true), (9, false), (10, false), (11, true), (12, true), (13, true), (14, true), (15, true), (16, true), (17, true), (18, true), (19, true), (20, true), (21, true), (22, true)] [] (by kernel_rfl) (by kernel_rfl) ?_
    refine JR_run (id := 24) (rest := [(3, false), (4, false), (5, true), (6, true), (7, true), (8, true), (9, false), (10, false), (11, true), (12, true), (13, true), (14, true), (15, true), (16, true), (17, true), (18, true), (19, true), (20, true), (21, true), (22, true)]) [.rd 0 [] 0 0, .rd 1 [] 0 0, .rd 2 [] 0 0] [0, 1, 4, 8, 10, 12, 15, 17, 134, 135, 136] (E1 := fun _ => [(0, .val (.slice a xs.length ca)), (1, .val (.slice b ys.length cb)), (4, .val (.bool false)), (8, .val (.slice ra27 rn27 rc27)), (10, .val (.bool true)), (12, .val (.int .i64 (-1))), (15, .val (.bool true)), (17, .val (.int .i64 (-1))), (134, .val (.slice ra24 rn24 rc24)), (135, .val (.slice a xs.length ca)), (136, .val (.slice b ys.length cb))]) (h1 := fun _ => []) (p1 := fun _ => []) (W1 := []) (fun _ => by kernel_rfl) (fun _ => trivial) (fun _ => ?_)
    refine JR_callp [] 24 #[.slice a xs.length ca, .slice b ys.length cb] (some 137) (by kernel_rfl) (fun w S hG => ?_)
    refine (rLeast (hG.at 1 rfl) (hG.at 2 rfl) (by omega) hxy).mono ?_
    rintro e49 w49 ⟨qa49, qn49, qc49, hR⟩
    refine ⟨_, _, _, hR, ?_⟩
    try simp only [List.cons_append, List.nil_append, List.append_nil]
    refine JR_callp [] 16 #[.slice ra24 rn24 rc24, .slice qa49 qn49 qc49] (some 138) (by kernel_rfl) (fun w S hG => ?_)
    refine (sameInts (hG.at 5 rfl) (hG.at 14 rfl) (by simp; omega)).mono ?_
    rintro e50 w50 hR
    rw [decide_eq_true rfl] at hR
    refine ⟨_, _, _, hR, ?_⟩
    try simp only [List.cons_append, List.nil_append, List.append_nil]
    refine JR_run (id := 24) (rest := [(9, false), (10, false), (11, true), (12, true), (13, true), (14, true), (15, true), (16, true), (17, true), (18, true), (19, true), (20, true), (21, true), (22, true)]) [.rd 5 [] 0 0, .rd 6 [] 0 0, .rd 7 [] 0 0, .rd 8 [] 0 0] [4, 10, 12, 15, 17, 139, 140, 141, 142] (E1 := fun _ => [(4, .val (.bool false)), (10, .val (.bool true)), (12, .val (.int .i64 (-1))), (15, .val (.bool true)), (17, .val (.int .i64 (-1))), (139, .val (.bool true)), (140, .val (.slice ra27 rn27 rc27)), (141, .val (.slice a xs.length ca)), (142, .val (.slice b ys.length cb))]) (h1 := fun _ => []) (p1 := fun _ => []) (W1 := []) (fun _ => by kernel_rfl) (fun _ => trivial) (fun _ => ?_)
    refine JR_callp [] 25 #[.slice a xs.length ca, .slice b ys.length cb] (some 143) (by kernel_rfl) (fun w S hG => ?_)
    refine (rMost (hG.at 1 rfl) (hG.at 2 rfl) (by omega) hxy).mono ?_
    rintro e51 w51 ⟨qa51, qn51, qc51, hR⟩
    refine ⟨_, _, _, hR, ?_⟩
    try simp only [List.cons_append, List.nil_append, List.append_nil]
    refine JR_callp [] 16 #[.slice ra27 rn27 rc27, .slice qa51 qn51 qc51] (some 144) (by kernel_rfl) (fun w S hG => ?_)
    refine (sameInts (hG.at 8 rfl) (hG.at 15 rfl) (by simp; omega)).mono ?_
    rintro e52 w52 hR
    rw [decide_eq_true rfl] at hR
    refine ⟨_, _, _, hR, ?_⟩
    try simp only [List.cons_append, List.nil_append, List.append_nil]
    refine JR_run (id := 24) (rest := []) [.rd 11 [] 0 0, .rd 12 [] 0 0, .rd 13 [] 0 0, .rd 14 [] 0 0, .rd 15 [] 0 0, .rd 16 [] 0 0, .rd 17 [] 0 0, .rd 18 [] 0 0, .rd 19 [] 0 0, .rd 20 [] 0 0, .rd 21 [] 0 0, .rd 22 [] 0 0] [4] (E1 := fun _ => [(4, .val (.bool true))]) (h1 := fun _ => []) (p1 := fun _ => []) (W1 := []) (fun _ => by kernel_rfl) (fun _ => trivial) (fun _ => ?_)
    refine JR_end ?_
    refine J_return [[]] (.bool true) (by kernel_rfl) (fun a w s => ?_)
    exact s.ret (by simp) [] [] rfl rfl
  · skip
    have ho : ordL xs ys = 0 := by simp [ordL, hin, hback]
    rw [ho]
    refine J_reg mixed [.rd 0 [] 0 0] [] [0, 1, 4, 6, 8, 10, 12, 15, 16, 17] (E1 := fun _ => [(0, .val (.slice a xs.length ca)), (1, .val (.slice b ys.length cb)), (4, .val (.bool false)), (6, .val (.slice ra24 rn24 rc24)), (8, .val (.slice ra27 rn27 rc27)), (10, .val (.bool true)), (12, .val (.int .i64 0)), (15, .val (.bool true)), (16, .val (.bool true)), (17, .val (.int .i64 2))]) (h1 := fun _ => []) (p1 := fun _ => []) (W1 := []) (by kernel_rfl) (fun _ => by kernel_rfl) (fun _ => trivial) (fun _ => ?_)
    refine J_seq ?_
    refine J_seq ?_
    refine J_reg mixed [.rd 0 [] 0 0] [] [0, 1, 4, 6, 8, 10, 12, 15, 16, 17, 128] (E1 := fun _ => [(0, .val (.slice a xs.length ca)), (1, .val (.slice b ys.length cb)), (4, .val (.bool false)), (6, .val (.slice ra24 rn24 rc24)), (8, .val (.slice ra27 rn27 rc27)), (10, .val (.bool true)), (12, .val (.int .i64 0)), (15, .val (.bool true)), (16, .val (.bool true)), (17, .val (.int .i64 2)), (128, .val (.bool true))]) (h1 := fun _ => []) (p1 := fun _ => []) (W1 := []) (by kernel_rfl) (fun _ => by kernel_rfl) (fun _ => trivial) (fun _ => ?_)
    refine J_cond_t (by kernel_rfl) (by kernel_rfl) ?_
    refine J_reg mixed [.rd 0 [] 0 0] [] [0, 1, 4, 6, 8, 10, 12, 15, 16, 17] (E1 := fun _ => [(0, .val (.slice a xs.length ca)), (1, .val (.slice b ys.length cb)), (4, .val (.bool false)), (6, .val (.slice ra24 rn24 rc24)), (8, .val (.slice ra27 rn27 rc27)), (10, .val (.bool true)), (12, .val (.int .i64 0)), (15, .val (.bool true)), (16, .val (.bool true)), (17, .val (.int .i64 (-1)))]) (h1 := fun _ => []) (p1 := fun _ => []) (W1 := []) (by kernel_rfl) (fun _ => by kernel_rfl) (fun _ => trivial) (fun _ => ?_)
    refine J_seq ?_
    refine J_seq ?_
    refine J_reg mixed [.rd 0 [] 0 0] [] [0, 1, 4, 6, 8, 10, 12, 15, 16, 17, 129] (E1 := fun _ => [(0, .val (.slice a xs.length ca)), (1, .val (.slice b ys.length cb)), (4, .val (.bool false)), (6, .val (.slice ra24 rn24 rc24)), (8, .val (.slice ra27 rn27 rc27)), (10, .val (.bool true)), (12, .val (.int .i64 0)), (15, .val (.bool true)), (16, .val (.bool true)), (17, .val (.int .i64 (-1))), (129, .val (.bool true))]) (h1 := fun _ => []) (p1 := fun _ => []) (W1 := []) (by kernel_rfl) (fun _ => by kernel_rfl) (fun _ => trivial) (fun _ => ?_)
    refine J_cond_t (by kernel_rfl) (by kernel_rfl) ?_
    refine J_reg mixed [.rd 0 [] 0 0] [] [0, 1, 4, 6, 8, 10, 12, 15, 16, 17] (E1 := fun _ => [(0, .val (.slice a xs.length ca)), (1, .val (.slice b ys.length cb)), (4, .val (.bool false)), (6, .val (.slice ra24 rn24 rc24)), (8, .val (.slice ra27 rn27 rc27)), (10, .val (.bool true)), (12, .val (.int .i64 0)), (15, .val (.bool true)), (16, .val (.bool true)), (17, .val (.int .i64 1))]) (h1 := fun _ => []) (p1 := fun _ => []) (W1 := []) (by kernel_rfl) (fun _ => by kernel_rfl) (fun _ => trivial) (fun _ => ?_)
    refine J_seq ?_
    refine J_seq ?_
    refine J_reg mixed [.rd 0 [] 0 0, .rd 1 [] 0 0, .rd 2 [] 0 0, .rd 3 [] 0 0] [] [0, 1, 4, 6, 8, 10, 12, 15, 17, 133] (E1 := fun _ => [(0, .val (.slice a xs.length ca)), (1, .val (.slice b ys.length cb)), (4, .val (.bool false)), (6, .val (.slice ra24 rn24 rc24)), (8, .val (.slice ra27 rn27 rc27)), (10, .val (.bool true)), (12, .val (.int .i64 0)), (15, .val (.bool true)), (17, .val (.int .i64 1)), (133, .val (.bool true))]) (h1 := fun _ => []) (p1 := fun _ => []) (W1 := []) (by kernel_rfl) (fun _ => by kernel_rfl) (fun _ => trivial) (fun _ => ?_)
    refine J_cond_t (by kernel_rfl) (by kernel_rfl) ?_
    refine J_reg mixed [.rd 0 [] 0 0] [] [0, 1, 4, 6, 8, 10, 12, 15, 17] (E1 := fun _ => [(0, .val (.slice a xs.length ca)), (1, .val (.slice b ys.length cb)), (4, .val (.bool false)), (6, .val (.slice ra24 rn24 rc24)), (8, .val (.slice ra27 rn27 rc27)), (10, .val (.bool true)), (12, .val (.int .i64 0)), (15, .val (.bool true)), (17, .val (.int .i64 0))]) (h1 := fun _ => []) (p1 := fun _ => []) (W1 := []) (by kernel_rfl) (fun _ => by kernel_rfl) (fun _ => trivial) (fun _ => ?_)
    refine J_seq ?_
    refine JR_begin mixed [(0, true), (1, true), (2, true), (3, false), (4, false), (5, true), (6, true), (7, true), (8, true), (9, false), (10, false), (11, true), (12, true), (13, true), (14, true), (15, true), (16, true), (17, true), (18, true), (19, true), (20, true), (21, true), (22, true)] [] (by kernel_rfl) (by kernel_rfl) ?_
    refine JR_run (id := 24) (rest := [(3, false), (4, false), (5, true), (6, true), (7, true), (8, true), (9, false), (10, false), (11, true), (12, true), (13, true), (14, true), (15, true), (16, true), (17, true), (18, true), (19, true), (20, true), (21, true), (22, true)]) [.rd 0 [] 0 0, .rd 1 [] 0 0, .rd 2 [] 0 0] [0, 1, 4, 8, 10, 12, 15, 17, 134, 135, 136] (E1 := fun _ => [(0, .val (.slice a xs.length ca)), (1, .val (.slice b ys.length cb)), (4, .val (.bool false)), (8, .val (.slice ra27 rn27 rc27)), (10, .val (.bool true)), (12, .val (.int .i64 0)), (15, .val (.bool true)), (17, .val (.int .i64 0)), (134, .val (.slice ra24 rn24 rc24)), (135, .val (.slice a xs.length ca)), (136, .val (.slice b ys.length cb))]) (h1 := fun _ => []) (p1 := fun _ => []) (W1 := []) (fun _ => by kernel_rfl) (fun _ => trivial) (fun _ => ?_)
    refine JR_callp [] 24 #[.slice a xs.length ca, .slice b ys.length cb] (some 137) (by kernel_rfl) (fun w S hG => ?_)
    refine (rLeast (hG.at 1 rfl) (hG.at 2 rfl) (by omega) hxy).mono ?_
    rintro e53 w53 ⟨qa53, qn53, qc53, hR⟩
    refine ⟨_, _, _, hR, ?_⟩
    try simp only [List.cons_append, List.nil_append, List.append_nil]
    refine JR_callp [] 16 #[.slice ra24 rn24 rc24, .slice qa53 qn53 qc53] (some 138) (by kernel_rfl) (fun w S hG => ?_)
    refine (sameInts (hG.at 5 rfl) (hG.at 14 rfl) (by simp; omega)).mono ?_
    rintro e54 w54 hR
    rw [decide_eq_true rfl] at hR
    refine ⟨_, _, _, hR, ?_⟩
    try simp only [List.cons_append, List.nil_append, List.append_nil]
    refine JR_run (id := 24) (rest := [(9, false), (10, false), (11, true), (12, true), (13, true), (14, true), (15, true), (16, true), (17, true), (18, true), (19, true), (20, true), (21, true), (22, true)]) [.rd 5 [] 0 0, .rd 6 [] 0 0, .rd 7 [] 0 0, .rd 8 [] 0 0] [4, 10, 12, 15, 17, 139, 140, 141, 142] (E1 := fun _ => [(4, .val (.bool false)), (10, .val (.bool true)), (12, .val (.int .i64 0)), (15, .val (.bool true)), (17, .val (.int .i64 0)), (139, .val (.bool true)), (140, .val (.slice ra27 rn27 rc27)), (141, .val (.slice a xs.length ca)), (142, .val (.slice b ys.length cb))]) (h1 := fun _ => []) (p1 := fun _ => []) (W1 := []) (fun _ => by kernel_rfl) (fun _ => trivial) (fun _ => ?_)
    refine JR_callp [] 25 #[.slice a xs.length ca, .slice b ys.length cb] (some 143) (by kernel_rfl) (fun w S hG => ?_)
    refine (rMost (hG.at 1 rfl) (hG.at 2 rfl) (by omega) hxy).mono ?_
    rintro e55 w55 ⟨qa55, qn55, qc55, hR⟩
    refine ⟨_, _, _, hR, ?_⟩
    try simp only [List.cons_append, List.nil_append, List.append_nil]
    refine JR_callp [] 16 #[.slice ra27 rn27 rc27, .slice qa55 qn55 qc55] (some 144) (by kernel_rfl) (fun w S hG => ?_)
    refine (sameInts (hG.at 8 rfl) (hG.at 15 rfl) (by simp; omega)).mono ?_
    rintro e56 w56 hR
    rw [decide_eq_true rfl] at hR
    refine ⟨_, _, _, hR, ?_⟩
    try simp only [List.cons_append, List.nil_append, List.append_nil]
    refine JR_run (id := 24) (rest := []) [.rd 11 [] 0 0, .rd 12 [] 0 0, .rd 13 [] 0 0, .rd 14 [] 0 0, .rd 15 [] 0 0, .rd 16 [] 0 0, .rd 17 [] 0 0, .rd 18 [] 0 0, .rd 19 [] 0 0, .rd 20 [] 0 0, .rd 21 [] 0 0, .rd 22 [] 0 0] [4] (E1 := fun _ => [(4, .val (.bool true))]) (h1 := fun _ => []) (p1 := fun _ => []) (W1 := []) (fun _ => by kernel_rfl) (fun _ => trivial) (fun _ => ?_)
    refine JR_end ?_
    refine J_return [[]] (.bool true) (by kernel_rfl) (fun a w s => ?_)
    exact s.ret (by simp) [] [] rfl rfl
end Go.Proofs.YtibkfmobofikmaaDoor
