/- VectorAhead, walked: where there is none. -/
import Derived.Test.YtibkfmobofikmaaDoorAhead
import Derived.Test.YtibkfmobofikmaaDoorVTwo
import Derived.Test.YtibkfmobofikmaaDoorVLaws
namespace Go.Proofs.YtibkfmobofikmaaDoor
open Go Go.Sx

set_option maxHeartbeats 16000000 in
theorem vaheadC4 {w : World} {S : Nat → Prop} {er : Nat → Addr} {eb : Nat → Array Value × TypeId} {a b : Option Addr} {n m ca cb : Nat} {xs ys : List Int} {p q : Int} (hC : Rep w S .nilIface (dC er eb)) (hI : Inj er) (ha : Rep w S (.slice a n ca) (dInts xs)) (hb : Rep w S (.slice b m cb) (dInts ys)) {x y : Int} (hab : twoErr xs ys = 0) (hp0 : 0 ≤ p) (hp1 : p < xs.length) (hq0 : 0 ≤ q) (hq1 : q < xs.length) (hx : xs[p.toNat]? = some x) (hy : ys[p.toNat]? = some y) (h1 : sumL xs = sumL ys) (h2' : p = q) (h3 : x < y) :
    Calls Tryd.prog 6 #[.slice a n ca, .int .i64 p, .slice b m cb, .int .i64 q] w fun e w' => Ret [] w S w' e (.bool true) [] [] := by
  obtain rfl := rep_ints_len ha
  obtain rfl := rep_ints_len hb
  refine ep6 (args := [.slice a xs.length ca, .int .i64 p, .slice b ys.length cb, .int .i64 q]) (G := [(_, dC er eb), (_, dInts xs), (_, dInts ys)]) (by kernel_rfl) (.cons hC (.cons ha (.cons hb (.nil _ _)))) ?_
  refine J_seq ?_
  refine J_reg mixed [.rd 0 [] 0 0] [] [0, 1, 2, 3, 8] (E1 := fun _ => [(0, .val (.slice a xs.length ca)), (1, .val (.int .i64 p)), (2, .val (.slice b ys.length cb)), (3, .val (.int .i64 q)), (8, .val (.bool false))]) (h1 := fun _ => []) (p1 := fun _ => []) (W1 := []) (by kernel_rfl) (fun _ => by kernel_rfl) (fun _ => trivial) (fun _ => ?_)
  refine J_seq ?_
  refine JR_begin mixed [(0, false), (1, true)] [] (by kernel_rfl) (by kernel_rfl) ?_
  refine JR_callp [] 11 #[] (some 21) (by kernel_rfl) (fun w S hG => ?_)
  refine (vtimed (globs_of (hG.at 0 rfl))).mono ?_
  rintro e1 w1 hR
  refine ⟨_, _, _, hR, ?_⟩
  try simp only [List.cons_append, List.nil_append, List.append_nil]
  refine JR_run (id := 1) (rest := []) [.rd 1 [] 0 0] [0, 1, 2, 3, 8, 9] (E1 := fun _ => [(0, .val (.slice a xs.length ca)), (1, .val (.int .i64 p)), (2, .val (.slice b ys.length cb)), (3, .val (.int .i64 q)), (8, .val (.bool false)), (9, .val (.bool true))]) (h1 := fun _ => []) (p1 := fun _ => []) (W1 := []) (fun _ => by kernel_rfl) (fun _ => trivial) (fun _ => ?_)
  refine JR_end ?_
  refine J_seq ?_
  refine J_seq ?_
  refine J_reg mixed [.rd 0 [] 0 0, .rd 1 [] 0 0, .rd 2 [] 0 0, .rd 3 [] 0 0, .rd 4 [] 0 0, .rd 5 [] 0 0, .rd 6 [] 0 0, .rd 7 [] 0 0, .rd 8 [] 2 0, .rd 9 [] 2 0, .rd 10 [] 2 0, .rd 11 [] 0 3] [] [0, 1, 2, 3, 8, 9, 33] (E1 := fun _ => [(0, .val (.slice a xs.length ca)), (1, .val (.int .i64 p)), (2, .val (.slice b ys.length cb)), (3, .val (.int .i64 q)), (8, .val (.bool false)), (9, .val (.bool true)), (33, .val (.bool (decide ((↑xs.length : Int) > 20) || decide ((↑ys.length : Int) > 20))))]) (h1 := fun _ => []) (p1 := fun _ => []) (W1 := []) (by kernel_rfl) (fun _ => by kernel_rfl) (fun _ => trivial) (fun _ => ?_)
  refine J_cond (t := decide ((↑xs.length : Int) > 20) || decide ((↑ys.length : Int) > 20)) (by kernel_rfl) (by kernel_rfl) (fun hbad => ?_) (fun hbad => ?_)
  · refine J_seq ?_
    refine J_reg mixed [.rd 0 [] 0 0, .rd 1 [] 0 0] [] [0, 1, 2, 3, 8] (E1 := fun _ => [(0, .val (.slice a xs.length ca)), (1, .val (.int .i64 p)), (2, .val (.slice b ys.length cb)), (3, .val (.int .i64 q)), (8, .val (.bool true))]) (h1 := fun _ => []) (p1 := fun _ => []) (W1 := []) (by kernel_rfl) (fun _ => by kernel_rfl) (fun _ => trivial) (fun _ => ?_)
    refine J_return [[]] (.bool true) (by kernel_rfl) (fun a w s => ?_)
    exact s.ret (by simp) [] [] rfl rfl
  obtain ⟨hl1, hl2⟩ : xs.length ≤ 20 ∧ ys.length ≤ 20 := by simp at hbad; omega
  refine J_skip ?_
  refine J_seq ?_
  refine JR_begin mixed [(0, true), (1, false), (2, false), (3, true), (4, true), (5, true), (6, true), (7, true)] [] (by kernel_rfl) (by kernel_rfl) ?_
  refine JR_run (id := 4) (rest := [(1, false), (2, false), (3, true), (4, true), (5, true), (6, true), (7, true)]) [.rd 0 [] 0 0] [0, 1, 2, 3, 8, 36] (E1 := fun _ => [(0, .val (.slice a xs.length ca)), (1, .val (.int .i64 p)), (2, .val (.slice b ys.length cb)), (3, .val (.int .i64 q)), (8, .val (.bool false)), (36, .val (.slice a xs.length ca))]) (h1 := fun _ => []) (p1 := fun _ => []) (W1 := []) (fun _ => by kernel_rfl) (fun _ => trivial) (fun _ => ?_)
  obtain ⟨hx0, hy0, hxy⟩ := twoErr_fine hab
  have hsum := @in_sum xs ys hxy
  refine JR_callp [] 13 #[.slice a xs.length ca] (some 37) (by kernel_rfl) (fun w S hG => ?_)
  refine (vown (hG.at 1 rfl) (by omega)).mono ?_
  rintro e2 w2 ⟨oa2, oc2, hR⟩
  refine ⟨_, _, _, hR, ?_⟩
  try simp only [List.cons_append, List.nil_append, List.append_nil]
  refine JR_callp [] 17 #[.slice oa2 xs.length oc2] (some 38) (by kernel_rfl) (fun w S hG => ?_)
  refine (vweight (globs_of (hG.at 0 rfl)) (hG.at 3 rfl) (by omega)).mono ?_
  rintro e3 w3 (⟨h9, hR⟩ | ⟨h9, hR⟩)
  · exact absurd hx0 h9
  refine ⟨_, _, _, hR, ?_⟩
  try simp only [List.cons_append, List.nil_append, List.append_nil]
  refine JR_run (id := 4) (rest := []) [.rd 3 [] 0 0, .rd 4 [] 0 0, .rd 5 [] 0 0, .rd 6 [] 0 0, .rd 7 [] 0 0] [0, 1, 2, 3, 8, 10, 11] (E1 := fun _ => [(0, .val (.slice a xs.length ca)), (1, .val (.int .i64 p)), (2, .val (.slice b ys.length cb)), (3, .val (.int .i64 q)), (8, .val (.bool false)), (10, .val (.int .i64 (sumL xs))), (11, .val (.nilIface))]) (h1 := fun _ => []) (p1 := fun _ => []) (W1 := []) (fun _ => by kernel_rfl) (fun _ => trivial) (fun _ => ?_)
  refine JR_end ?_
  refine J_seq ?_
  refine JR_begin mixed [(0, true), (1, false), (2, true), (3, true), (4, false), (5, true), (6, false), (7, true), (8, true), (9, true), (10, true), (11, true)] [] (by kernel_rfl) (by kernel_rfl) ?_
  refine JR_run (id := 5) (rest := [(1, false), (2, true), (3, true), (4, false), (5, true), (6, false), (7, true), (8, true), (9, true), (10, true), (11, true)]) [.rd 0 [] 0 0] [0, 1, 2, 3, 8, 10, 11, 42] (E1 := fun _ => [(0, .val (.slice a xs.length ca)), (1, .val (.int .i64 p)), (2, .val (.slice b ys.length cb)), (3, .val (.int .i64 q)), (8, .val (.bool false)), (10, .val (.int .i64 (sumL xs))), (11, .val (.nilIface)), (42, .val (.slice a xs.length ca))]) (h1 := fun _ => []) (p1 := fun _ => []) (W1 := []) (fun _ => by kernel_rfl) (fun _ => trivial) (fun _ => ?_)
  refine JR_callp [] 13 #[.slice a xs.length ca] (some 43) (by kernel_rfl) (fun w S hG => ?_)
  refine (vown (hG.at 1 rfl) (by omega)).mono ?_
  rintro e4 w4 ⟨oa4, oc4, hR⟩
  refine ⟨_, _, _, hR, ?_⟩
  try simp only [List.cons_append, List.nil_append, List.append_nil]
  refine JR_run (id := 5) (rest := [(4, false), (5, true), (6, false), (7, true), (8, true), (9, true), (10, true), (11, true)]) [.rd 2 [] 0 0, .rd 3 [] 0 0] [0, 1, 2, 3, 8, 10, 11, 43, 44, 45] (E1 := fun _ => [(0, .val (.slice a xs.length ca)), (1, .val (.int .i64 p)), (2, .val (.slice b ys.length cb)), (3, .val (.int .i64 q)), (8, .val (.bool false)), (10, .val (.int .i64 (sumL xs))), (11, .val (.nilIface)), (43, .val (.slice oa4 xs.length oc4)), (44, .val (.int .i64 p)), (45, .val (.slice b ys.length cb))]) (h1 := fun _ => []) (p1 := fun _ => []) (W1 := []) (fun _ => by kernel_rfl) (fun _ => trivial) (fun _ => ?_)
  refine JR_callp [] 13 #[.slice b ys.length cb] (some 46) (by kernel_rfl) (fun w S hG => ?_)
  refine (vown (hG.at 2 rfl) (by omega)).mono ?_
  rintro e5 w5 ⟨oa5, oc5, hR⟩
  refine ⟨_, _, _, hR, ?_⟩
  try simp only [List.cons_append, List.nil_append, List.append_nil]
  refine JR_run (id := 5) (rest := [(6, false), (7, true), (8, true), (9, true), (10, true), (11, true)]) [.rd 5 [] 0 0] [0, 1, 2, 3, 8, 10, 11, 43, 44, 46, 47] (E1 := fun _ => [(0, .val (.slice a xs.length ca)), (1, .val (.int .i64 p)), (2, .val (.slice b ys.length cb)), (3, .val (.int .i64 q)), (8, .val (.bool false)), (10, .val (.int .i64 (sumL xs))), (11, .val (.nilIface)), (43, .val (.slice oa4 xs.length oc4)), (44, .val (.int .i64 p)), (46, .val (.slice oa5 ys.length oc5)), (47, .val (.int .i64 q))]) (h1 := fun _ => []) (p1 := fun _ => []) (W1 := []) (fun _ => by kernel_rfl) (fun _ => trivial) (fun _ => ?_)
  refine JR_callp [] 26 #[.slice oa4 xs.length oc4, .int .i64 p, .slice oa5 ys.length oc5, .int .i64 q] (some 48) (by kernel_rfl) (fun w S hG => ?_)
  refine (vahead (globs_of (hG.at 0 rfl)) (hG.at 4 rfl) (hG.at 5 rfl) (by omega) (by omega)).mono ?_
  rintro e6 w6 (⟨h2, hR⟩ | ⟨h2, hbnd, hR⟩ | ⟨h2, _, _, _, _, x', y', hx', hy', hR⟩)
  · exact absurd hab h2
  · omega
  rw [hx] at hx'
  rw [hy] at hy'
  cases hx'
  cases hy'
  have hA : aheadB (sumL xs) (sumL ys) p q x y = true := by simp [aheadB]; omega
  rw [hA] at hR
  refine ⟨_, _, _, hR, ?_⟩
  try simp only [List.cons_append, List.nil_append, List.append_nil]
  refine JR_run (id := 5) (rest := []) [.rd 7 [] 0 0, .rd 8 [] 0 0, .rd 9 [] 0 0, .rd 10 [] 0 0, .rd 11 [] 0 0] [0, 1, 2, 3, 8, 10, 11, 12, 13] (E1 := fun _ => [(0, .val (.slice a xs.length ca)), (1, .val (.int .i64 p)), (2, .val (.slice b ys.length cb)), (3, .val (.int .i64 q)), (8, .val (.bool false)), (10, .val (.int .i64 (sumL xs))), (11, .val (.nilIface)), (12, .val (.bool true)), (13, .val (.nilIface))]) (h1 := fun _ => []) (p1 := fun _ => []) (W1 := []) (fun _ => by kernel_rfl) (fun _ => trivial) (fun _ => ?_)
  refine JR_end ?_
  refine J_seq ?_
  refine J_seq ?_
  refine J_read0 1 rfl p.toNat (map_at hx) (by kernel_rfl) (fun b1 off1 cs1 ty1 fz1 ha1 hrd1 => ?_)
  cases ha1
  have hrd1_0 := rd0 (hrd1 0 _ rfl)
  refine J_read0 2 rfl p.toNat (map_at hy) (by kernel_rfl) (fun b2 off2 cs2 ty2 fz2 ha2 hrd2 => ?_)
  cases ha2
  have hrd2_0 := rd0 (hrd2 0 _ rfl)
  try simp only [List.cons_append, List.nil_append, List.append_nil]
  refine JR_begin mixed [(0, true), (1, false), (2, true)] [] (by kernel_rfl) (by kernel_rfl) ?_
  refine JR_run (id := 6) (rest := [(1, false), (2, true)]) [.rd 0 [] 0 0] [0, 1, 2, 3, 8, 10, 11, 12, 13, 51] (E1 := fun _ => [(0, .val (.slice (some (⟨b1, off1, none⟩)) xs.length ca)), (1, .val (.int .i64 p)), (2, .val (.slice (some (⟨b2, off2, none⟩)) ys.length cb)), (3, .val (.int .i64 q)), (8, .val (.bool false)), (10, .val (.int .i64 (sumL xs))), (11, .val (.nilIface)), (12, .val (.bool true)), (13, .val (.nilIface)), (51, .val (.slice (some (⟨b1, off1, none⟩)) xs.length ca))]) (h1 := fun _ => []) (p1 := fun _ => []) (W1 := []) (fun _ => by kernel_rfl) (fun _ => trivial) (fun _ => ?_)
  refine JR_callp [] 22 #[.slice (some (⟨b1, off1, none⟩)) xs.length ca] (some 52) (by kernel_rfl) (fun w S hG => ?_)
  refine (rVecErr (hG.at 1 rfl) (by omega)).mono ?_
  rintro e7 w7 hR
  rw [hx0] at hR
  refine ⟨_, _, _, hR, ?_⟩
  try simp only [List.cons_append, List.nil_append, List.append_nil]
  refine JR_run (id := 6) (rest := []) [.rd 2 [] 0 0] [0, 1, 2, 3, 8, 10, 11, 12, 13, 53] (E1 := fun _ => [(0, .val (.slice (some (⟨b1, off1, none⟩)) xs.length ca)), (1, .val (.int .i64 p)), (2, .val (.slice (some (⟨b2, off2, none⟩)) ys.length cb)), (3, .val (.int .i64 q)), (8, .val (.bool false)), (10, .val (.int .i64 (sumL xs))), (11, .val (.nilIface)), (12, .val (.bool true)), (13, .val (.nilIface)), (53, .val (.bool false))]) (h1 := fun _ => []) (p1 := fun _ => []) (W1 := []) (fun _ => by kernel_rfl) (fun _ => trivial) (fun _ => ?_)
  refine JR_end ?_
  refine J_cond_f (by kernel_rfl) (by kernel_rfl) ?_
  refine J_seq ?_
  refine JR_begin mixed [(0, true), (1, true), (2, true), (3, true), (4, true), (5, false), (6, true), (7, true)] [] (by kernel_rfl) (by kernel_rfl) ?_
  refine JR_run (id := 9) (rest := [(5, false), (6, true), (7, true)]) [.rd 0 [] 0 0, .rd 1 [] 0 0, .rd 2 [] 0 0, .rd 3 [] 0 0, .rd 4 [] 0 0] [0, 1, 2, 3, 8, 12, 13, 65, 66, 67] (E1 := fun _ => [(0, .val (.slice (some (⟨b1, off1, none⟩)) xs.length ca)), (1, .val (.int .i64 p)), (2, .val (.slice (some (⟨b2, off2, none⟩)) ys.length cb)), (3, .val (.int .i64 q)), (8, .val (.bool false)), (12, .val (.bool true)), (13, .val (.nilIface)), (65, .val (.bool false)), (66, .val (.int .i64 (sumL xs))), (67, .val (.slice (some (⟨b1, off1, none⟩)) xs.length ca))]) (h1 := fun _ => []) (p1 := fun _ => []) (W1 := []) (fun _ => by kernel_rfl) (fun _ => trivial) (fun _ => ?_)
  refine JR_callp [] 27 #[.slice (some (⟨b1, off1, none⟩)) xs.length ca] (some 68) (by kernel_rfl) (fun w S hG => ?_)
  refine (rWeight (hG.at 1 rfl) hx0).mono ?_
  rintro e8 w8 hR
  refine ⟨_, _, _, hR, ?_⟩
  try simp only [List.cons_append, List.nil_append, List.append_nil]
  refine JR_run (id := 9) (rest := []) [.rd 6 [] 0 7, .rd 7 [] 0 0] [0, 1, 2, 3, 8, 12, 13, 70] (E1 := fun _ => [(0, .val (.slice (some (⟨b1, off1, none⟩)) xs.length ca)), (1, .val (.int .i64 p)), (2, .val (.slice (some (⟨b2, off2, none⟩)) ys.length cb)), (3, .val (.int .i64 q)), (8, .val (.bool false)), (12, .val (.bool true)), (13, .val (.nilIface)), (70, .val (.bool false))]) (h1 := fun _ => []) (p1 := fun _ => [(sumL xs != sumL xs) = false]) (W1 := []) (fun _ => by kernel_rfl) (fun _ => ⟨by simp, trivial⟩) (fun _ => ?_)
  refine JR_end ?_
  refine J_cond_f (by kernel_rfl) (by kernel_rfl) ?_
  refine J_skip ?_
  refine J_seq ?_
  refine JR_begin mixed [(0, true), (1, true), (2, false), (3, true)] [] (by kernel_rfl) (by kernel_rfl) ?_
  refine JR_run (id := 11) (rest := [(2, false), (3, true)]) [.rd 0 [] 0 0, .rd 1 [] 0 0] [0, 1, 2, 3, 8, 12, 13, 71, 72] (E1 := fun _ => [(0, .val (.slice (some (⟨b1, off1, none⟩)) xs.length ca)), (1, .val (.int .i64 p)), (2, .val (.slice (some (⟨b2, off2, none⟩)) ys.length cb)), (3, .val (.int .i64 q)), (8, .val (.bool false)), (12, .val (.bool true)), (13, .val (.nilIface)), (71, .val (.slice (some (⟨b1, off1, none⟩)) xs.length ca)), (72, .val (.slice (some (⟨b2, off2, none⟩)) ys.length cb))]) (h1 := fun _ => []) (p1 := fun _ => []) (W1 := []) (fun _ => by kernel_rfl) (fun _ => trivial) (fun _ => ?_)
  refine JR_callp [] 19 #[.slice (some (⟨b1, off1, none⟩)) xs.length ca, .slice (some (⟨b2, off2, none⟩)) ys.length cb] (some 73) (by kernel_rfl) (fun w S hG => ?_)
  refine (rTwoErr (hG.at 1 rfl) (hG.at 2 rfl) (by omega) (by omega)).mono ?_
  rintro e9 w9 hR
  rw [hab] at hR
  refine ⟨_, _, _, hR, ?_⟩
  try simp only [List.cons_append, List.nil_append, List.append_nil]
  refine JR_run (id := 11) (rest := []) [.rd 3 [] 0 0] [0, 1, 2, 3, 8, 12, 13, 14] (E1 := fun _ => [(0, .val (.slice (some (⟨b1, off1, none⟩)) xs.length ca)), (1, .val (.int .i64 p)), (2, .val (.slice (some (⟨b2, off2, none⟩)) ys.length cb)), (3, .val (.int .i64 q)), (8, .val (.bool false)), (12, .val (.bool true)), (13, .val (.nilIface)), (14, .val (.int .i64 0))]) (h1 := fun _ => []) (p1 := fun _ => []) (W1 := []) (fun _ => by kernel_rfl) (fun _ => trivial) (fun _ => ?_)
  refine JR_end ?_
  refine J_seq ?_
  refine J_seq ?_
  refine J_reg mixed [.rd 0 [] 0 0, .rd 1 [] 0 0, .rd 2 [] 0 0, .rd 3 [] 0 0, .rd 4 [] 0 7, .rd 5 [] 0 0, .rd 6 [] 0 0, .rd 7 [] 0 0, .rd 8 [] 0 0, .rd 9 [] 0 7, .rd 10 [] 0 0, .rd 11 [] 0 0, .rd 12 [] 0 0, .rd 13 [] 0 7, .rd 14 [] 0 0, .rd 15 [] 0 0, .rd 16 [] 0 0, .rd 17 [] 0 0, .rd 18 [] 0 0, .rd 19 [] 0 7, .rd 20 [] 0 0, .rd 21 [] 0 0] [] [0, 1, 2, 3, 8, 12, 13, 14, 95] (E1 := fun _ => [(0, .val (.slice (some (⟨b1, off1, none⟩)) xs.length ca)), (1, .val (.int .i64 p)), (2, .val (.slice (some (⟨b2, off2, none⟩)) ys.length cb)), (3, .val (.int .i64 q)), (8, .val (.bool false)), (12, .val (.bool true)), (13, .val (.nilIface)), (14, .val (.int .i64 0)), (95, .val (.bool false))]) (h1 := fun _ => []) (p1 := fun _ => [decide (p < (0 : Int)) = false, decide (p ≥ (↑xs.length : Int)) = false, decide (q < (0 : Int)) = false, decide (q ≥ (↑xs.length : Int)) = false]) (W1 := []) (by kernel_rfl) (fun _ => by kernel_rfl) (fun _ => ⟨by simp; omega, by simp; omega, by simp; omega, by simp; omega, trivial⟩) (fun _ => ?_)
  refine J_cond_f (by kernel_rfl) (by kernel_rfl) ?_
  refine J_skip ?_
  refine J_seq ?_
  refine J_seq ?_
  refine J_reg mixed [.rd 0 [] 0 0, .rd 1 [] 0 0] [] [0, 1, 2, 3, 8, 12, 13, 14, 97] (E1 := fun _ => [(0, .val (.slice (some (⟨b1, off1, none⟩)) xs.length ca)), (1, .val (.int .i64 p)), (2, .val (.slice (some (⟨b2, off2, none⟩)) ys.length cb)), (3, .val (.int .i64 q)), (8, .val (.bool false)), (12, .val (.bool true)), (13, .val (.nilIface)), (14, .val (.int .i64 0)), (97, .val (.bool false))]) (h1 := fun _ => []) (p1 := fun _ => []) (W1 := []) (by kernel_rfl) (fun _ => by kernel_rfl) (fun _ => trivial) (fun _ => ?_)
  refine J_cond_f (by kernel_rfl) (by kernel_rfl) ?_
  refine J_skip ?_
  refine J_seq ?_
  refine JR_begin mixed [(0, true), (1, false), (2, true)] [] (by kernel_rfl) (by kernel_rfl) ?_
  refine JR_run (id := 16) (rest := [(1, false), (2, true)]) [.rd 0 [] 0 0] [0, 1, 2, 3, 8, 12, 13, 105] (E1 := fun _ => [(0, .val (.slice (some (⟨b1, off1, none⟩)) xs.length ca)), (1, .val (.int .i64 p)), (2, .val (.slice (some (⟨b2, off2, none⟩)) ys.length cb)), (3, .val (.int .i64 q)), (8, .val (.bool false)), (12, .val (.bool true)), (13, .val (.nilIface)), (105, .val (.slice (some (⟨b1, off1, none⟩)) xs.length ca))]) (h1 := fun _ => []) (p1 := fun _ => []) (W1 := []) (fun _ => by kernel_rfl) (fun _ => trivial) (fun _ => ?_)
  refine JR_callp [] 27 #[.slice (some (⟨b1, off1, none⟩)) xs.length ca] (some 106) (by kernel_rfl) (fun w S hG => ?_)
  refine (rWeight (hG.at 1 rfl) hx0).mono ?_
  rintro e10 w10 hR
  refine ⟨_, _, _, hR, ?_⟩
  try simp only [List.cons_append, List.nil_append, List.append_nil]
  refine JR_run (id := 16) (rest := []) [.rd 2 [] 0 0] [0, 1, 2, 3, 8, 12, 13, 15] (E1 := fun _ => [(0, .val (.slice (some (⟨b1, off1, none⟩)) xs.length ca)), (1, .val (.int .i64 p)), (2, .val (.slice (some (⟨b2, off2, none⟩)) ys.length cb)), (3, .val (.int .i64 q)), (8, .val (.bool false)), (12, .val (.bool true)), (13, .val (.nilIface)), (15, .val (.int .i64 (sumL xs)))]) (h1 := fun _ => []) (p1 := fun _ => []) (W1 := []) (fun _ => by kernel_rfl) (fun _ => trivial) (fun _ => ?_)
  refine JR_end ?_
  refine J_seq ?_
  refine JR_begin mixed [(0, true), (1, false), (2, true)] [] (by kernel_rfl) (by kernel_rfl) ?_
  refine JR_run (id := 17) (rest := [(1, false), (2, true)]) [.rd 0 [] 0 0] [0, 1, 2, 3, 8, 12, 13, 15, 107] (E1 := fun _ => [(0, .val (.slice (some (⟨b1, off1, none⟩)) xs.length ca)), (1, .val (.int .i64 p)), (2, .val (.slice (some (⟨b2, off2, none⟩)) ys.length cb)), (3, .val (.int .i64 q)), (8, .val (.bool false)), (12, .val (.bool true)), (13, .val (.nilIface)), (15, .val (.int .i64 (sumL xs))), (107, .val (.slice (some (⟨b2, off2, none⟩)) ys.length cb))]) (h1 := fun _ => []) (p1 := fun _ => []) (W1 := []) (fun _ => by kernel_rfl) (fun _ => trivial) (fun _ => ?_)
  refine JR_callp [] 27 #[.slice (some (⟨b2, off2, none⟩)) ys.length cb] (some 108) (by kernel_rfl) (fun w S hG => ?_)
  refine (rWeight (hG.at 2 rfl) hy0).mono ?_
  rintro e11 w11 hR
  refine ⟨_, _, _, hR, ?_⟩
  try simp only [List.cons_append, List.nil_append, List.append_nil]
  refine JR_run (id := 17) (rest := []) [.rd 2 [] 0 0] [0, 1, 2, 3, 8, 12, 13, 15, 16] (E1 := fun _ => [(0, .val (.slice (some (⟨b1, off1, none⟩)) xs.length ca)), (1, .val (.int .i64 p)), (2, .val (.slice (some (⟨b2, off2, none⟩)) ys.length cb)), (3, .val (.int .i64 q)), (8, .val (.bool false)), (12, .val (.bool true)), (13, .val (.nilIface)), (15, .val (.int .i64 (sumL xs))), (16, .val (.int .i64 (sumL ys)))]) (h1 := fun _ => []) (p1 := fun _ => []) (W1 := []) (fun _ => by kernel_rfl) (fun _ => trivial) (fun _ => ?_)
  refine JR_end ?_
  refine J_seq ?_
  refine J_reg mixed [.rd 0 [] 0 0, .rd 1 [] 0 0, .rd 2 [] 0 7, .rd 3 [] 0 0, .rd 4 [] 0 0, .rd 5 [] 0 0, .rd 6 [] 0 6, .rd 7 [] 0 0, .rd 8 [] 0 0, .rd 9 [] 0 0, .rd 10 [] 0 7, .rd 11 [] 0 0, .rd 12 [] 0 0, .rd 13 [] 0 0, .rd 14 [] 0 0, .rd 15 [] 0 0, .rd 16 [] 0 6, .rd 17 [] 0 0, .rd 18 [] 0 0, .rd 19 [] 0 0, .rd 20 [] 0 6, .rd 21 [] 0 0, .rd 22 [] 0 0, .rd 23 [] 0 0, .rd 24 [] 0 0, .rd 25 [] 0 2, .rd 26 [.r 0 (some (.int .i64 x))] 0 0, .rd 27 [] 0 0, .rd 28 [] 0 0, .rd 29 [] 0 2, .rd 30 [.r 1 (some (.int .i64 y))] 0 0, .rd 31 [] 0 6, .rd 32 [] 0 0, .rd 33 [] 0 0, .rd 34 [] 0 0] [] [0, 1, 2, 3, 8, 12, 13, 15, 16, 17] (E1 := fun _ => [(0, .val (.slice (some (⟨b1, off1, none⟩)) xs.length ca)), (1, .val (.int .i64 p)), (2, .val (.slice (some (⟨b2, off2, none⟩)) ys.length cb)), (3, .val (.int .i64 q)), (8, .val (.bool false)), (12, .val (.bool true)), (13, .val (.nilIface)), (15, .val (.int .i64 (sumL xs))), (16, .val (.int .i64 (sumL ys))), (17, .val (.bool true))]) (h1 := fun _ => []) (p1 := fun _ => [decide (sumL xs < sumL ys) = false, (sumL xs == sumL ys) = true, decide (p < q) = false, (sumL xs == sumL ys) = true, (p == q) = true, (0 : Int) ≤ p, p < (↑xs.length : Int), cs1[off1 + p.toNat * (1 : Nat)]? = some (Value.int IntKind.i64 x), (0 : Int) ≤ p, p < (↑ys.length : Int), cs2[off2 + p.toNat * (1 : Nat)]? = some (Value.int IntKind.i64 y), decide (x < y) = true]) (W1 := []) (by kernel_rfl) (fun _ => by kernel_rfl) (fun _ => ⟨by simp; omega, by simp; omega, by simp; omega, by simp; omega, by simp; omega, hp0, hp1, hrd1_0, hp0, by omega, hrd2_0, by simp; omega, trivial⟩) (fun _ => ?_)
  refine J_seq ?_
  refine JR_begin mixed [(0, true), (1, false), (2, true), (3, true), (4, false), (5, true), (6, false), (7, true), (8, true), (9, true), (10, true), (11, true)] [] (by kernel_rfl) (by kernel_rfl) ?_
  refine JR_run (id := 19) (rest := [(1, false), (2, true), (3, true), (4, false), (5, true), (6, false), (7, true), (8, true), (9, true), (10, true), (11, true)]) [.rd 0 [] 0 0] [0, 1, 2, 3, 8, 12, 13, 15, 16, 17, 144] (E1 := fun _ => [(0, .val (.slice (some (⟨b1, off1, none⟩)) xs.length ca)), (1, .val (.int .i64 p)), (2, .val (.slice (some (⟨b2, off2, none⟩)) ys.length cb)), (3, .val (.int .i64 q)), (8, .val (.bool false)), (12, .val (.bool true)), (13, .val (.nilIface)), (15, .val (.int .i64 (sumL xs))), (16, .val (.int .i64 (sumL ys))), (17, .val (.bool true)), (144, .val (.slice (some (⟨b2, off2, none⟩)) ys.length cb))]) (h1 := fun _ => []) (p1 := fun _ => []) (W1 := []) (fun _ => by kernel_rfl) (fun _ => trivial) (fun _ => ?_)
  refine JR_callp [] 13 #[.slice (some (⟨b2, off2, none⟩)) ys.length cb] (some 145) (by kernel_rfl) (fun w S hG => ?_)
  refine (vown (hG.at 2 rfl) (by omega)).mono ?_
  rintro e12 w12 ⟨oa12, oc12, hR⟩
  refine ⟨_, _, _, hR, ?_⟩
  try simp only [List.cons_append, List.nil_append, List.append_nil]
  refine JR_run (id := 19) (rest := [(4, false), (5, true), (6, false), (7, true), (8, true), (9, true), (10, true), (11, true)]) [.rd 2 [] 0 0, .rd 3 [] 0 0] [0, 1, 2, 3, 8, 12, 13, 15, 16, 17, 145, 146, 147] (E1 := fun _ => [(0, .val (.slice (some (⟨b1, off1, none⟩)) xs.length ca)), (1, .val (.int .i64 p)), (2, .val (.slice (some (⟨b2, off2, none⟩)) ys.length cb)), (3, .val (.int .i64 q)), (8, .val (.bool false)), (12, .val (.bool true)), (13, .val (.nilIface)), (15, .val (.int .i64 (sumL xs))), (16, .val (.int .i64 (sumL ys))), (17, .val (.bool true)), (145, .val (.slice oa12 ys.length oc12)), (146, .val (.int .i64 q)), (147, .val (.slice (some (⟨b1, off1, none⟩)) xs.length ca))]) (h1 := fun _ => []) (p1 := fun _ => []) (W1 := []) (fun _ => by kernel_rfl) (fun _ => trivial) (fun _ => ?_)
  refine JR_callp [] 13 #[.slice (some (⟨b1, off1, none⟩)) xs.length ca] (some 148) (by kernel_rfl) (fun w S hG => ?_)
  refine (vown (hG.at 1 rfl) (by omega)).mono ?_
  rintro e13 w13 ⟨oa13, oc13, hR⟩
  refine ⟨_, _, _, hR, ?_⟩
  try simp only [List.cons_append, List.nil_append, List.append_nil]
  refine JR_run (id := 19) (rest := [(6, false), (7, true), (8, true), (9, true), (10, true), (11, true)]) [.rd 5 [] 0 0] [0, 1, 2, 3, 8, 12, 13, 15, 16, 17, 145, 146, 148, 149] (E1 := fun _ => [(0, .val (.slice (some (⟨b1, off1, none⟩)) xs.length ca)), (1, .val (.int .i64 p)), (2, .val (.slice (some (⟨b2, off2, none⟩)) ys.length cb)), (3, .val (.int .i64 q)), (8, .val (.bool false)), (12, .val (.bool true)), (13, .val (.nilIface)), (15, .val (.int .i64 (sumL xs))), (16, .val (.int .i64 (sumL ys))), (17, .val (.bool true)), (145, .val (.slice oa12 ys.length oc12)), (146, .val (.int .i64 q)), (148, .val (.slice oa13 xs.length oc13)), (149, .val (.int .i64 p))]) (h1 := fun _ => []) (p1 := fun _ => []) (W1 := []) (fun _ => by kernel_rfl) (fun _ => trivial) (fun _ => ?_)
  refine JR_callp [] 26 #[.slice oa12 ys.length oc12, .int .i64 q, .slice oa13 xs.length oc13, .int .i64 p] (some 150) (by kernel_rfl) (fun w S hG => ?_)
  refine (vahead (globs_of (hG.at 0 rfl)) (hG.at 6 rfl) (hG.at 7 rfl) (by omega) (by omega)).mono ?_
  rintro e14 w14 (⟨h4, hR⟩ | ⟨h4, hbnd, hR⟩ | ⟨h4, _, _, _, _, x2, y2, hx2, hy2, hR⟩)
  · exact absurd (two_of hy0 hx0 hxy.symm) h4
  · omega
  rw [← h2', hy] at hx2
  rw [← h2', hx] at hy2
  cases hx2
  cases hy2
  have hB : aheadB (sumL ys) (sumL xs) q p y x = false := by simp [aheadB]; omega
  rw [hB] at hR
  refine ⟨_, _, _, hR, ?_⟩
  try simp only [List.cons_append, List.nil_append, List.append_nil]
  refine JR_run (id := 19) (rest := []) [.rd 7 [] 0 0, .rd 8 [] 0 0, .rd 9 [] 0 0, .rd 10 [] 0 0, .rd 11 [] 0 0] [0, 1, 2, 3, 8, 12, 13, 15, 16, 17, 18, 19] (E1 := fun _ => [(0, .val (.slice (some (⟨b1, off1, none⟩)) xs.length ca)), (1, .val (.int .i64 p)), (2, .val (.slice (some (⟨b2, off2, none⟩)) ys.length cb)), (3, .val (.int .i64 q)), (8, .val (.bool false)), (12, .val (.bool true)), (13, .val (.nilIface)), (15, .val (.int .i64 (sumL xs))), (16, .val (.int .i64 (sumL ys))), (17, .val (.bool true)), (18, .val (.bool false)), (19, .val (.nilIface))]) (h1 := fun _ => []) (p1 := fun _ => []) (W1 := []) (fun _ => by kernel_rfl) (fun _ => trivial) (fun _ => ?_)
  refine JR_end ?_
  refine J_seq ?_
  refine J_seq ?_
  refine J_reg mixed [.rd 0 [] 0 0, .rd 1 [] 0 0, .rd 2 [] 0 0, .rd 3 [] 0 0, .rd 4 [] 0 0, .rd 5 [] 0 0, .rd 6 [] 0 0, .rd 7 [] 0 0, .rd 8 [] 0 0, .rd 9 [] 0 0, .rd 10 [] 0 0] [] [0, 1, 2, 3, 8, 12, 15, 16, 18, 163] (E1 := fun _ => [(0, .val (.slice (some (⟨b1, off1, none⟩)) xs.length ca)), (1, .val (.int .i64 p)), (2, .val (.slice (some (⟨b2, off2, none⟩)) ys.length cb)), (3, .val (.int .i64 q)), (8, .val (.bool false)), (12, .val (.bool true)), (15, .val (.int .i64 (sumL xs))), (16, .val (.int .i64 (sumL ys))), (18, .val (.bool false)), (163, .val (.bool false))]) (h1 := fun _ => []) (p1 := fun _ => []) (W1 := []) (by kernel_rfl) (fun _ => by kernel_rfl) (fun _ => trivial) (fun _ => ?_)
  refine J_cond_f (by kernel_rfl) (by kernel_rfl) ?_
  refine J_skip ?_
  refine J_seq ?_
  refine JR_begin mixed [(0, true), (1, true), (2, false), (3, true)] [] (by kernel_rfl) (by kernel_rfl) ?_
  refine JR_run (id := 22) (rest := [(2, false), (3, true)]) [.rd 0 [] 0 0, .rd 1 [] 0 0] [0, 1, 2, 3, 8, 12, 15, 16, 18, 164, 165] (E1 := fun _ => [(0, .val (.slice (some (⟨b1, off1, none⟩)) xs.length ca)), (1, .val (.int .i64 p)), (2, .val (.slice (some (⟨b2, off2, none⟩)) ys.length cb)), (3, .val (.int .i64 q)), (8, .val (.bool false)), (12, .val (.bool true)), (15, .val (.int .i64 (sumL xs))), (16, .val (.int .i64 (sumL ys))), (18, .val (.bool false)), (164, .val (.slice (some (⟨b1, off1, none⟩)) xs.length ca)), (165, .val (.slice (some (⟨b2, off2, none⟩)) ys.length cb))]) (h1 := fun _ => []) (p1 := fun _ => []) (W1 := []) (fun _ => by kernel_rfl) (fun _ => trivial) (fun _ => ?_)
  cases hin : inL xs ys
  · skip
    refine JR_callp [] 23 #[.slice (some (⟨b1, off1, none⟩)) xs.length ca, .slice (some (⟨b2, off2, none⟩)) ys.length cb] (some 166) (by kernel_rfl) (fun w S hG => ?_)
    refine (rIn (hG.at 1 rfl) (hG.at 2 rfl) (by omega) hxy).mono ?_
    rintro e15 w15 hR
    rw [hin] at hR
    refine ⟨_, _, _, hR, ?_⟩
    try simp only [List.cons_append, List.nil_append, List.append_nil]
    refine JR_run (id := 22) (rest := []) [.rd 3 [] 0 0] [0, 1, 2, 3, 8, 12, 15, 16, 18, 20] (E1 := fun _ => [(0, .val (.slice (some (⟨b1, off1, none⟩)) xs.length ca)), (1, .val (.int .i64 p)), (2, .val (.slice (some (⟨b2, off2, none⟩)) ys.length cb)), (3, .val (.int .i64 q)), (8, .val (.bool false)), (12, .val (.bool true)), (15, .val (.int .i64 (sumL xs))), (16, .val (.int .i64 (sumL ys))), (18, .val (.bool false)), (20, .val (.bool false))]) (h1 := fun _ => []) (p1 := fun _ => []) (W1 := []) (fun _ => by kernel_rfl) (fun _ => trivial) (fun _ => ?_)
    refine JR_end ?_
    refine J_seq ?_
    refine J_seq ?_
    refine J_reg mixed [.rd 0 [] 0 0, .rd 1 [] 0 0, .rd 2 [] 1 0, .rd 3 [] 1 0, .wr 4 [] 1, .rd 5 [] 1 0, .rd 6 [] 0 0, .rd 7 [] 0 0, .rd 8 [] 1 0, .rd 9 [] 1 0, .rd 10 [] 0 0] [] [0, 1, 2, 3, 8, 12, 15, 16, 18, 177] (E1 := fun _ => [(0, .val (.slice (some (⟨b1, off1, none⟩)) xs.length ca)), (1, .val (.int .i64 p)), (2, .val (.slice (some (⟨b2, off2, none⟩)) ys.length cb)), (3, .val (.int .i64 q)), (8, .val (.bool false)), (12, .val (.bool true)), (15, .val (.int .i64 (sumL xs))), (16, .val (.int .i64 (sumL ys))), (18, .val (.bool false)), (177, .val (.bool false))]) (h1 := fun _ => []) (p1 := fun _ => []) (W1 := []) (by kernel_rfl) (fun _ => by kernel_rfl) (fun _ => trivial) (fun _ => ?_)
    refine J_cond_f (by kernel_rfl) (by kernel_rfl) ?_
    refine J_skip ?_
    refine J_seq ?_
    refine J_seq ?_
    refine J_reg mixed [.rd 0 [] 0 0, .rd 1 [] 0 0, .rd 2 [] 0 6, .rd 3 [] 0 0, .rd 4 [] 0 0, .rd 5 [] 0 0, .rd 6 [] 0 6, .rd 7 [] 0 0, .rd 8 [] 0 0, .rd 9 [] 0 0, .rd 10 [] 0 0, .rd 11 [] 0 2, .rd 12 [.r 0 (some (.int .i64 x))] 0 0, .rd 13 [] 0 0, .rd 14 [] 0 0, .rd 15 [] 0 2, .rd 16 [.r 1 (some (.int .i64 y))] 0 0, .rd 17 [] 0 7, .rd 18 [] 0 0] [] [8, 12, 18, 196] (E1 := fun _ => [(8, .val (.bool false)), (12, .val (.bool true)), (18, .val (.bool false)), (196, .val (.bool false))]) (h1 := fun _ => []) (p1 := fun _ => [(sumL xs == sumL ys) = true, (p == q) = true, (0 : Int) ≤ p, p < (↑xs.length : Int), cs1[off1 + p.toNat * (1 : Nat)]? = some (Value.int IntKind.i64 x), (0 : Int) ≤ p, p < (↑ys.length : Int), cs2[off2 + p.toNat * (1 : Nat)]? = some (Value.int IntKind.i64 y), (x == y) = false]) (W1 := []) (by kernel_rfl) (fun _ => by kernel_rfl) (fun _ => ⟨by simp; omega, by simp; omega, hp0, hp1, hrd1_0, hp0, by omega, hrd2_0, by simp; omega, trivial⟩) (fun _ => ?_)
    refine J_cond_f (by kernel_rfl) (by kernel_rfl) ?_
    refine J_skip ?_
    refine J_seq ?_
    refine J_reg mixed [.rd 0 [] 0 0, .rd 1 [] 0 0, .rd 2 [] 0 0, .rd 3 [] 0 0] [] [8] (E1 := fun _ => [(8, .val (.bool true))]) (h1 := fun _ => []) (p1 := fun _ => []) (W1 := []) (by kernel_rfl) (fun _ => by kernel_rfl) (fun _ => trivial) (fun _ => ?_)
    refine J_return [[]] (.bool true) (by kernel_rfl) (fun a w s => ?_)
    exact s.ret (by simp) [] [] rfl rfl
  · skip
    refine JR_callp [] 23 #[.slice (some (⟨b1, off1, none⟩)) xs.length ca, .slice (some (⟨b2, off2, none⟩)) ys.length cb] (some 166) (by kernel_rfl) (fun w S hG => ?_)
    refine (rIn (hG.at 1 rfl) (hG.at 2 rfl) (by omega) hxy).mono ?_
    rintro e16 w16 hR
    rw [hin] at hR
    refine ⟨_, _, _, hR, ?_⟩
    try simp only [List.cons_append, List.nil_append, List.append_nil]
    refine JR_run (id := 22) (rest := []) [.rd 3 [] 0 0] [0, 1, 2, 3, 8, 12, 15, 16, 18, 20] (E1 := fun _ => [(0, .val (.slice (some (⟨b1, off1, none⟩)) xs.length ca)), (1, .val (.int .i64 p)), (2, .val (.slice (some (⟨b2, off2, none⟩)) ys.length cb)), (3, .val (.int .i64 q)), (8, .val (.bool false)), (12, .val (.bool true)), (15, .val (.int .i64 (sumL xs))), (16, .val (.int .i64 (sumL ys))), (18, .val (.bool false)), (20, .val (.bool true))]) (h1 := fun _ => []) (p1 := fun _ => []) (W1 := []) (fun _ => by kernel_rfl) (fun _ => trivial) (fun _ => ?_)
    refine JR_end ?_
    refine J_seq ?_
    refine J_seq ?_
    refine JR_begin mixed [(0, true), (1, true), (2, true), (3, true), (4, false), (5, true), (6, true), (7, true), (8, true), (9, true), (10, true)] [] (by kernel_rfl) (by kernel_rfl) ?_
    refine JR_run (id := 23) (rest := [(4, false), (5, true), (6, true), (7, true), (8, true), (9, true), (10, true)]) [.rd 0 [] 0 0, .rd 1 [] 0 0, .rd 2 [] 0 0, .rd 3 [] 0 0] [0, 1, 2, 3, 8, 12, 15, 16, 18, 168, 169, 170] (E1 := fun _ => [(0, .val (.slice (some (⟨b1, off1, none⟩)) xs.length ca)), (1, .val (.int .i64 p)), (2, .val (.slice (some (⟨b2, off2, none⟩)) ys.length cb)), (3, .val (.int .i64 q)), (8, .val (.bool false)), (12, .val (.bool true)), (15, .val (.int .i64 (sumL xs))), (16, .val (.int .i64 (sumL ys))), (18, .val (.bool false)), (168, .val (.bool true)), (169, .val (.slice (some (⟨b1, off1, none⟩)) xs.length ca)), (170, .val (.slice (some (⟨b2, off2, none⟩)) ys.length cb))]) (h1 := fun _ => []) (p1 := fun _ => []) (W1 := []) (fun _ => by kernel_rfl) (fun _ => trivial) (fun _ => ?_)
    have heq : xs = ys := by rcases (hsum hin).2 with h | h; omega; exact h
    refine JR_callp [] 16 #[.slice (some (⟨b1, off1, none⟩)) xs.length ca, .slice (some (⟨b2, off2, none⟩)) ys.length cb] (some 171) (by kernel_rfl) (fun w S hG => ?_)
    refine (sameInts (hG.at 1 rfl) (hG.at 2 rfl) (by omega)).mono ?_
    rintro e17 w17 hR
    rw [decide_eq_true heq] at hR
    refine ⟨_, _, _, hR, ?_⟩
    try simp only [List.cons_append, List.nil_append, List.append_nil]
    refine JR_run (id := 23) (rest := []) [.rd 5 [] 0 0, .rd 6 [] 0 0, .rd 7 [] 0 0, .rd 8 [] 1 0, .rd 9 [] 1 0, .rd 10 [] 0 0] [0, 1, 2, 3, 8, 12, 15, 16, 18, 177] (E1 := fun _ => [(0, .val (.slice (some (⟨b1, off1, none⟩)) xs.length ca)), (1, .val (.int .i64 p)), (2, .val (.slice (some (⟨b2, off2, none⟩)) ys.length cb)), (3, .val (.int .i64 q)), (8, .val (.bool false)), (12, .val (.bool true)), (15, .val (.int .i64 (sumL xs))), (16, .val (.int .i64 (sumL ys))), (18, .val (.bool false)), (177, .val (.bool false))]) (h1 := fun _ => []) (p1 := fun _ => []) (W1 := []) (fun _ => by kernel_rfl) (fun _ => trivial) (fun _ => ?_)
    refine JR_end ?_
    refine J_cond_f (by kernel_rfl) (by kernel_rfl) ?_
    refine J_skip ?_
    refine J_seq ?_
    refine J_seq ?_
    refine J_reg mixed [.rd 0 [] 0 0, .rd 1 [] 0 0, .rd 2 [] 0 6, .rd 3 [] 0 0, .rd 4 [] 0 0, .rd 5 [] 0 0, .rd 6 [] 0 6, .rd 7 [] 0 0, .rd 8 [] 0 0, .rd 9 [] 0 0, .rd 10 [] 0 0, .rd 11 [] 0 2, .rd 12 [.r 0 (some (.int .i64 x))] 0 0, .rd 13 [] 0 0, .rd 14 [] 0 0, .rd 15 [] 0 2, .rd 16 [.r 1 (some (.int .i64 y))] 0 0, .rd 17 [] 0 7, .rd 18 [] 0 0] [] [8, 12, 18, 196] (E1 := fun _ => [(8, .val (.bool false)), (12, .val (.bool true)), (18, .val (.bool false)), (196, .val (.bool false))]) (h1 := fun _ => []) (p1 := fun _ => [(sumL xs == sumL ys) = true, (p == q) = true, (0 : Int) ≤ p, p < (↑xs.length : Int), cs1[off1 + p.toNat * (1 : Nat)]? = some (Value.int IntKind.i64 x), (0 : Int) ≤ p, p < (↑ys.length : Int), cs2[off2 + p.toNat * (1 : Nat)]? = some (Value.int IntKind.i64 y), (x == y) = false]) (W1 := []) (by kernel_rfl) (fun _ => by kernel_rfl) (fun _ => ⟨by simp; omega, by simp; omega, hp0, hp1, hrd1_0, hp0, by omega, hrd2_0, by simp; omega, trivial⟩) (fun _ => ?_)
    refine J_cond_f (by kernel_rfl) (by kernel_rfl) ?_
    refine J_skip ?_
    refine J_seq ?_
    refine J_reg mixed [.rd 0 [] 0 0, .rd 1 [] 0 0, .rd 2 [] 0 0, .rd 3 [] 0 0] [] [8] (E1 := fun _ => [(8, .val (.bool true))]) (h1 := fun _ => []) (p1 := fun _ => []) (W1 := []) (by kernel_rfl) (fun _ => by kernel_rfl) (fun _ => trivial) (fun _ => ?_)
    refine J_return [[]] (.bool true) (by kernel_rfl) (fun a w s => ?_)
    exact s.ret (by simp) [] [] rfl rfl

set_option maxHeartbeats 16000000 in
theorem vaheadC5 {w : World} {S : Nat → Prop} {er : Nat → Addr} {eb : Nat → Array Value × TypeId} {a b : Option Addr} {n m ca cb : Nat} {xs ys : List Int} {p q : Int} (hC : Rep w S .nilIface (dC er eb)) (hI : Inj er) (ha : Rep w S (.slice a n ca) (dInts xs)) (hb : Rep w S (.slice b m cb) (dInts ys)) {x y : Int} (hab : twoErr xs ys = 0) (hp0 : 0 ≤ p) (hp1 : p < xs.length) (hq0 : 0 ≤ q) (hq1 : q < xs.length) (hx : xs[p.toNat]? = some x) (hy : ys[p.toNat]? = some y) (h1 : sumL xs = sumL ys) (h2' : p = q) (h3 : y < x) :
    Calls Tryd.prog 6 #[.slice a n ca, .int .i64 p, .slice b m cb, .int .i64 q] w fun e w' => Ret [] w S w' e (.bool true) [] [] := by
  obtain rfl := rep_ints_len ha
  obtain rfl := rep_ints_len hb
  refine ep6 (args := [.slice a xs.length ca, .int .i64 p, .slice b ys.length cb, .int .i64 q]) (G := [(_, dC er eb), (_, dInts xs), (_, dInts ys)]) (by kernel_rfl) (.cons hC (.cons ha (.cons hb (.nil _ _)))) ?_
  refine J_seq ?_
  refine J_reg mixed [.rd 0 [] 0 0] [] [0, 1, 2, 3, 8] (E1 := fun _ => [(0, .val (.slice a xs.length ca)), (1, .val (.int .i64 p)), (2, .val (.slice b ys.length cb)), (3, .val (.int .i64 q)), (8, .val (.bool false))]) (h1 := fun _ => []) (p1 := fun _ => []) (W1 := []) (by kernel_rfl) (fun _ => by kernel_rfl) (fun _ => trivial) (fun _ => ?_)
  refine J_seq ?_
  refine JR_begin mixed [(0, false), (1, true)] [] (by kernel_rfl) (by kernel_rfl) ?_
  refine JR_callp [] 11 #[] (some 21) (by kernel_rfl) (fun w S hG => ?_)
  refine (vtimed (globs_of (hG.at 0 rfl))).mono ?_
  rintro e1 w1 hR
  refine ⟨_, _, _, hR, ?_⟩
  try simp only [List.cons_append, List.nil_append, List.append_nil]
  refine JR_run (id := 1) (rest := []) [.rd 1 [] 0 0] [0, 1, 2, 3, 8, 9] (E1 := fun _ => [(0, .val (.slice a xs.length ca)), (1, .val (.int .i64 p)), (2, .val (.slice b ys.length cb)), (3, .val (.int .i64 q)), (8, .val (.bool false)), (9, .val (.bool true))]) (h1 := fun _ => []) (p1 := fun _ => []) (W1 := []) (fun _ => by kernel_rfl) (fun _ => trivial) (fun _ => ?_)
  refine JR_end ?_
  refine J_seq ?_
  refine J_seq ?_
  refine J_reg mixed [.rd 0 [] 0 0, .rd 1 [] 0 0, .rd 2 [] 0 0, .rd 3 [] 0 0, .rd 4 [] 0 0, .rd 5 [] 0 0, .rd 6 [] 0 0, .rd 7 [] 0 0, .rd 8 [] 2 0, .rd 9 [] 2 0, .rd 10 [] 2 0, .rd 11 [] 0 3] [] [0, 1, 2, 3, 8, 9, 33] (E1 := fun _ => [(0, .val (.slice a xs.length ca)), (1, .val (.int .i64 p)), (2, .val (.slice b ys.length cb)), (3, .val (.int .i64 q)), (8, .val (.bool false)), (9, .val (.bool true)), (33, .val (.bool (decide ((↑xs.length : Int) > 20) || decide ((↑ys.length : Int) > 20))))]) (h1 := fun _ => []) (p1 := fun _ => []) (W1 := []) (by kernel_rfl) (fun _ => by kernel_rfl) (fun _ => trivial) (fun _ => ?_)
  refine J_cond (t := decide ((↑xs.length : Int) > 20) || decide ((↑ys.length : Int) > 20)) (by kernel_rfl) (by kernel_rfl) (fun hbad => ?_) (fun hbad => ?_)
  · refine J_seq ?_
    refine J_reg mixed [.rd 0 [] 0 0, .rd 1 [] 0 0] [] [0, 1, 2, 3, 8] (E1 := fun _ => [(0, .val (.slice a xs.length ca)), (1, .val (.int .i64 p)), (2, .val (.slice b ys.length cb)), (3, .val (.int .i64 q)), (8, .val (.bool true))]) (h1 := fun _ => []) (p1 := fun _ => []) (W1 := []) (by kernel_rfl) (fun _ => by kernel_rfl) (fun _ => trivial) (fun _ => ?_)
    refine J_return [[]] (.bool true) (by kernel_rfl) (fun a w s => ?_)
    exact s.ret (by simp) [] [] rfl rfl
  obtain ⟨hl1, hl2⟩ : xs.length ≤ 20 ∧ ys.length ≤ 20 := by simp at hbad; omega
  refine J_skip ?_
  refine J_seq ?_
  refine JR_begin mixed [(0, true), (1, false), (2, false), (3, true), (4, true), (5, true), (6, true), (7, true)] [] (by kernel_rfl) (by kernel_rfl) ?_
  refine JR_run (id := 4) (rest := [(1, false), (2, false), (3, true), (4, true), (5, true), (6, true), (7, true)]) [.rd 0 [] 0 0] [0, 1, 2, 3, 8, 36] (E1 := fun _ => [(0, .val (.slice a xs.length ca)), (1, .val (.int .i64 p)), (2, .val (.slice b ys.length cb)), (3, .val (.int .i64 q)), (8, .val (.bool false)), (36, .val (.slice a xs.length ca))]) (h1 := fun _ => []) (p1 := fun _ => []) (W1 := []) (fun _ => by kernel_rfl) (fun _ => trivial) (fun _ => ?_)
  obtain ⟨hx0, hy0, hxy⟩ := twoErr_fine hab
  have hsum := @in_sum xs ys hxy
  refine JR_callp [] 13 #[.slice a xs.length ca] (some 37) (by kernel_rfl) (fun w S hG => ?_)
  refine (vown (hG.at 1 rfl) (by omega)).mono ?_
  rintro e2 w2 ⟨oa2, oc2, hR⟩
  refine ⟨_, _, _, hR, ?_⟩
  try simp only [List.cons_append, List.nil_append, List.append_nil]
  refine JR_callp [] 17 #[.slice oa2 xs.length oc2] (some 38) (by kernel_rfl) (fun w S hG => ?_)
  refine (vweight (globs_of (hG.at 0 rfl)) (hG.at 3 rfl) (by omega)).mono ?_
  rintro e3 w3 (⟨h9, hR⟩ | ⟨h9, hR⟩)
  · exact absurd hx0 h9
  refine ⟨_, _, _, hR, ?_⟩
  try simp only [List.cons_append, List.nil_append, List.append_nil]
  refine JR_run (id := 4) (rest := []) [.rd 3 [] 0 0, .rd 4 [] 0 0, .rd 5 [] 0 0, .rd 6 [] 0 0, .rd 7 [] 0 0] [0, 1, 2, 3, 8, 10, 11] (E1 := fun _ => [(0, .val (.slice a xs.length ca)), (1, .val (.int .i64 p)), (2, .val (.slice b ys.length cb)), (3, .val (.int .i64 q)), (8, .val (.bool false)), (10, .val (.int .i64 (sumL xs))), (11, .val (.nilIface))]) (h1 := fun _ => []) (p1 := fun _ => []) (W1 := []) (fun _ => by kernel_rfl) (fun _ => trivial) (fun _ => ?_)
  refine JR_end ?_
  refine J_seq ?_
  refine JR_begin mixed [(0, true), (1, false), (2, true), (3, true), (4, false), (5, true), (6, false), (7, true), (8, true), (9, true), (10, true), (11, true)] [] (by kernel_rfl) (by kernel_rfl) ?_
  refine JR_run (id := 5) (rest := [(1, false), (2, true), (3, true), (4, false), (5, true), (6, false), (7, true), (8, true), (9, true), (10, true), (11, true)]) [.rd 0 [] 0 0] [0, 1, 2, 3, 8, 10, 11, 42] (E1 := fun _ => [(0, .val (.slice a xs.length ca)), (1, .val (.int .i64 p)), (2, .val (.slice b ys.length cb)), (3, .val (.int .i64 q)), (8, .val (.bool false)), (10, .val (.int .i64 (sumL xs))), (11, .val (.nilIface)), (42, .val (.slice a xs.length ca))]) (h1 := fun _ => []) (p1 := fun _ => []) (W1 := []) (fun _ => by kernel_rfl) (fun _ => trivial) (fun _ => ?_)
  refine JR_callp [] 13 #[.slice a xs.length ca] (some 43) (by kernel_rfl) (fun w S hG => ?_)
  refine (vown (hG.at 1 rfl) (by omega)).mono ?_
  rintro e4 w4 ⟨oa4, oc4, hR⟩
  refine ⟨_, _, _, hR, ?_⟩
  try simp only [List.cons_append, List.nil_append, List.append_nil]
  refine JR_run (id := 5) (rest := [(4, false), (5, true), (6, false), (7, true), (8, true), (9, true), (10, true), (11, true)]) [.rd 2 [] 0 0, .rd 3 [] 0 0] [0, 1, 2, 3, 8, 10, 11, 43, 44, 45] (E1 := fun _ => [(0, .val (.slice a xs.length ca)), (1, .val (.int .i64 p)), (2, .val (.slice b ys.length cb)), (3, .val (.int .i64 q)), (8, .val (.bool false)), (10, .val (.int .i64 (sumL xs))), (11, .val (.nilIface)), (43, .val (.slice oa4 xs.length oc4)), (44, .val (.int .i64 p)), (45, .val (.slice b ys.length cb))]) (h1 := fun _ => []) (p1 := fun _ => []) (W1 := []) (fun _ => by kernel_rfl) (fun _ => trivial) (fun _ => ?_)
  refine JR_callp [] 13 #[.slice b ys.length cb] (some 46) (by kernel_rfl) (fun w S hG => ?_)
  refine (vown (hG.at 2 rfl) (by omega)).mono ?_
  rintro e5 w5 ⟨oa5, oc5, hR⟩
  refine ⟨_, _, _, hR, ?_⟩
  try simp only [List.cons_append, List.nil_append, List.append_nil]
  refine JR_run (id := 5) (rest := [(6, false), (7, true), (8, true), (9, true), (10, true), (11, true)]) [.rd 5 [] 0 0] [0, 1, 2, 3, 8, 10, 11, 43, 44, 46, 47] (E1 := fun _ => [(0, .val (.slice a xs.length ca)), (1, .val (.int .i64 p)), (2, .val (.slice b ys.length cb)), (3, .val (.int .i64 q)), (8, .val (.bool false)), (10, .val (.int .i64 (sumL xs))), (11, .val (.nilIface)), (43, .val (.slice oa4 xs.length oc4)), (44, .val (.int .i64 p)), (46, .val (.slice oa5 ys.length oc5)), (47, .val (.int .i64 q))]) (h1 := fun _ => []) (p1 := fun _ => []) (W1 := []) (fun _ => by kernel_rfl) (fun _ => trivial) (fun _ => ?_)
  refine JR_callp [] 26 #[.slice oa4 xs.length oc4, .int .i64 p, .slice oa5 ys.length oc5, .int .i64 q] (some 48) (by kernel_rfl) (fun w S hG => ?_)
  refine (vahead (globs_of (hG.at 0 rfl)) (hG.at 4 rfl) (hG.at 5 rfl) (by omega) (by omega)).mono ?_
  rintro e6 w6 (⟨h2, hR⟩ | ⟨h2, hbnd, hR⟩ | ⟨h2, _, _, _, _, x', y', hx', hy', hR⟩)
  · exact absurd hab h2
  · omega
  rw [hx] at hx'
  rw [hy] at hy'
  cases hx'
  cases hy'
  have hA : aheadB (sumL xs) (sumL ys) p q x y = false := by simp [aheadB]; omega
  rw [hA] at hR
  refine ⟨_, _, _, hR, ?_⟩
  try simp only [List.cons_append, List.nil_append, List.append_nil]
  refine JR_run (id := 5) (rest := []) [.rd 7 [] 0 0, .rd 8 [] 0 0, .rd 9 [] 0 0, .rd 10 [] 0 0, .rd 11 [] 0 0] [0, 1, 2, 3, 8, 10, 11, 12, 13] (E1 := fun _ => [(0, .val (.slice a xs.length ca)), (1, .val (.int .i64 p)), (2, .val (.slice b ys.length cb)), (3, .val (.int .i64 q)), (8, .val (.bool false)), (10, .val (.int .i64 (sumL xs))), (11, .val (.nilIface)), (12, .val (.bool false)), (13, .val (.nilIface))]) (h1 := fun _ => []) (p1 := fun _ => []) (W1 := []) (fun _ => by kernel_rfl) (fun _ => trivial) (fun _ => ?_)
  refine JR_end ?_
  refine J_seq ?_
  refine J_seq ?_
  refine J_read0 1 rfl p.toNat (map_at hx) (by kernel_rfl) (fun b1 off1 cs1 ty1 fz1 ha1 hrd1 => ?_)
  cases ha1
  have hrd1_0 := rd0 (hrd1 0 _ rfl)
  refine J_read0 2 rfl p.toNat (map_at hy) (by kernel_rfl) (fun b2 off2 cs2 ty2 fz2 ha2 hrd2 => ?_)
  cases ha2
  have hrd2_0 := rd0 (hrd2 0 _ rfl)
  try simp only [List.cons_append, List.nil_append, List.append_nil]
  refine JR_begin mixed [(0, true), (1, false), (2, true)] [] (by kernel_rfl) (by kernel_rfl) ?_
  refine JR_run (id := 6) (rest := [(1, false), (2, true)]) [.rd 0 [] 0 0] [0, 1, 2, 3, 8, 10, 11, 12, 13, 51] (E1 := fun _ => [(0, .val (.slice (some (⟨b1, off1, none⟩)) xs.length ca)), (1, .val (.int .i64 p)), (2, .val (.slice (some (⟨b2, off2, none⟩)) ys.length cb)), (3, .val (.int .i64 q)), (8, .val (.bool false)), (10, .val (.int .i64 (sumL xs))), (11, .val (.nilIface)), (12, .val (.bool false)), (13, .val (.nilIface)), (51, .val (.slice (some (⟨b1, off1, none⟩)) xs.length ca))]) (h1 := fun _ => []) (p1 := fun _ => []) (W1 := []) (fun _ => by kernel_rfl) (fun _ => trivial) (fun _ => ?_)
  refine JR_callp [] 22 #[.slice (some (⟨b1, off1, none⟩)) xs.length ca] (some 52) (by kernel_rfl) (fun w S hG => ?_)
  refine (rVecErr (hG.at 1 rfl) (by omega)).mono ?_
  rintro e7 w7 hR
  rw [hx0] at hR
  refine ⟨_, _, _, hR, ?_⟩
  try simp only [List.cons_append, List.nil_append, List.append_nil]
  refine JR_run (id := 6) (rest := []) [.rd 2 [] 0 0] [0, 1, 2, 3, 8, 10, 11, 12, 13, 53] (E1 := fun _ => [(0, .val (.slice (some (⟨b1, off1, none⟩)) xs.length ca)), (1, .val (.int .i64 p)), (2, .val (.slice (some (⟨b2, off2, none⟩)) ys.length cb)), (3, .val (.int .i64 q)), (8, .val (.bool false)), (10, .val (.int .i64 (sumL xs))), (11, .val (.nilIface)), (12, .val (.bool false)), (13, .val (.nilIface)), (53, .val (.bool false))]) (h1 := fun _ => []) (p1 := fun _ => []) (W1 := []) (fun _ => by kernel_rfl) (fun _ => trivial) (fun _ => ?_)
  refine JR_end ?_
  refine J_cond_f (by kernel_rfl) (by kernel_rfl) ?_
  refine J_seq ?_
  refine JR_begin mixed [(0, true), (1, true), (2, true), (3, true), (4, true), (5, false), (6, true), (7, true)] [] (by kernel_rfl) (by kernel_rfl) ?_
  refine JR_run (id := 9) (rest := [(5, false), (6, true), (7, true)]) [.rd 0 [] 0 0, .rd 1 [] 0 0, .rd 2 [] 0 0, .rd 3 [] 0 0, .rd 4 [] 0 0] [0, 1, 2, 3, 8, 12, 13, 65, 66, 67] (E1 := fun _ => [(0, .val (.slice (some (⟨b1, off1, none⟩)) xs.length ca)), (1, .val (.int .i64 p)), (2, .val (.slice (some (⟨b2, off2, none⟩)) ys.length cb)), (3, .val (.int .i64 q)), (8, .val (.bool false)), (12, .val (.bool false)), (13, .val (.nilIface)), (65, .val (.bool false)), (66, .val (.int .i64 (sumL xs))), (67, .val (.slice (some (⟨b1, off1, none⟩)) xs.length ca))]) (h1 := fun _ => []) (p1 := fun _ => []) (W1 := []) (fun _ => by kernel_rfl) (fun _ => trivial) (fun _ => ?_)
  refine JR_callp [] 27 #[.slice (some (⟨b1, off1, none⟩)) xs.length ca] (some 68) (by kernel_rfl) (fun w S hG => ?_)
  refine (rWeight (hG.at 1 rfl) hx0).mono ?_
  rintro e8 w8 hR
  refine ⟨_, _, _, hR, ?_⟩
  try simp only [List.cons_append, List.nil_append, List.append_nil]
  refine JR_run (id := 9) (rest := []) [.rd 6 [] 0 7, .rd 7 [] 0 0] [0, 1, 2, 3, 8, 12, 13, 70] (E1 := fun _ => [(0, .val (.slice (some (⟨b1, off1, none⟩)) xs.length ca)), (1, .val (.int .i64 p)), (2, .val (.slice (some (⟨b2, off2, none⟩)) ys.length cb)), (3, .val (.int .i64 q)), (8, .val (.bool false)), (12, .val (.bool false)), (13, .val (.nilIface)), (70, .val (.bool false))]) (h1 := fun _ => []) (p1 := fun _ => [(sumL xs != sumL xs) = false]) (W1 := []) (fun _ => by kernel_rfl) (fun _ => ⟨by simp, trivial⟩) (fun _ => ?_)
  refine JR_end ?_
  refine J_cond_f (by kernel_rfl) (by kernel_rfl) ?_
  refine J_skip ?_
  refine J_seq ?_
  refine JR_begin mixed [(0, true), (1, true), (2, false), (3, true)] [] (by kernel_rfl) (by kernel_rfl) ?_
  refine JR_run (id := 11) (rest := [(2, false), (3, true)]) [.rd 0 [] 0 0, .rd 1 [] 0 0] [0, 1, 2, 3, 8, 12, 13, 71, 72] (E1 := fun _ => [(0, .val (.slice (some (⟨b1, off1, none⟩)) xs.length ca)), (1, .val (.int .i64 p)), (2, .val (.slice (some (⟨b2, off2, none⟩)) ys.length cb)), (3, .val (.int .i64 q)), (8, .val (.bool false)), (12, .val (.bool false)), (13, .val (.nilIface)), (71, .val (.slice (some (⟨b1, off1, none⟩)) xs.length ca)), (72, .val (.slice (some (⟨b2, off2, none⟩)) ys.length cb))]) (h1 := fun _ => []) (p1 := fun _ => []) (W1 := []) (fun _ => by kernel_rfl) (fun _ => trivial) (fun _ => ?_)
  refine JR_callp [] 19 #[.slice (some (⟨b1, off1, none⟩)) xs.length ca, .slice (some (⟨b2, off2, none⟩)) ys.length cb] (some 73) (by kernel_rfl) (fun w S hG => ?_)
  refine (rTwoErr (hG.at 1 rfl) (hG.at 2 rfl) (by omega) (by omega)).mono ?_
  rintro e9 w9 hR
  rw [hab] at hR
  refine ⟨_, _, _, hR, ?_⟩
  try simp only [List.cons_append, List.nil_append, List.append_nil]
  refine JR_run (id := 11) (rest := []) [.rd 3 [] 0 0] [0, 1, 2, 3, 8, 12, 13, 14] (E1 := fun _ => [(0, .val (.slice (some (⟨b1, off1, none⟩)) xs.length ca)), (1, .val (.int .i64 p)), (2, .val (.slice (some (⟨b2, off2, none⟩)) ys.length cb)), (3, .val (.int .i64 q)), (8, .val (.bool false)), (12, .val (.bool false)), (13, .val (.nilIface)), (14, .val (.int .i64 0))]) (h1 := fun _ => []) (p1 := fun _ => []) (W1 := []) (fun _ => by kernel_rfl) (fun _ => trivial) (fun _ => ?_)
  refine JR_end ?_
  refine J_seq ?_
  refine J_seq ?_
  refine J_reg mixed [.rd 0 [] 0 0, .rd 1 [] 0 0, .rd 2 [] 0 0, .rd 3 [] 0 0, .rd 4 [] 0 7, .rd 5 [] 0 0, .rd 6 [] 0 0, .rd 7 [] 0 0, .rd 8 [] 0 0, .rd 9 [] 0 7, .rd 10 [] 0 0, .rd 11 [] 0 0, .rd 12 [] 0 0, .rd 13 [] 0 7, .rd 14 [] 0 0, .rd 15 [] 0 0, .rd 16 [] 0 0, .rd 17 [] 0 0, .rd 18 [] 0 0, .rd 19 [] 0 7, .rd 20 [] 0 0, .rd 21 [] 0 0] [] [0, 1, 2, 3, 8, 12, 13, 14, 95] (E1 := fun _ => [(0, .val (.slice (some (⟨b1, off1, none⟩)) xs.length ca)), (1, .val (.int .i64 p)), (2, .val (.slice (some (⟨b2, off2, none⟩)) ys.length cb)), (3, .val (.int .i64 q)), (8, .val (.bool false)), (12, .val (.bool false)), (13, .val (.nilIface)), (14, .val (.int .i64 0)), (95, .val (.bool false))]) (h1 := fun _ => []) (p1 := fun _ => [decide (p < (0 : Int)) = false, decide (p ≥ (↑xs.length : Int)) = false, decide (q < (0 : Int)) = false, decide (q ≥ (↑xs.length : Int)) = false]) (W1 := []) (by kernel_rfl) (fun _ => by kernel_rfl) (fun _ => ⟨by simp; omega, by simp; omega, by simp; omega, by simp; omega, trivial⟩) (fun _ => ?_)
  refine J_cond_f (by kernel_rfl) (by kernel_rfl) ?_
  refine J_skip ?_
  refine J_seq ?_
  refine J_seq ?_
  refine J_reg mixed [.rd 0 [] 0 0, .rd 1 [] 0 0] [] [0, 1, 2, 3, 8, 12, 13, 14, 97] (E1 := fun _ => [(0, .val (.slice (some (⟨b1, off1, none⟩)) xs.length ca)), (1, .val (.int .i64 p)), (2, .val (.slice (some (⟨b2, off2, none⟩)) ys.length cb)), (3, .val (.int .i64 q)), (8, .val (.bool false)), (12, .val (.bool false)), (13, .val (.nilIface)), (14, .val (.int .i64 0)), (97, .val (.bool false))]) (h1 := fun _ => []) (p1 := fun _ => []) (W1 := []) (by kernel_rfl) (fun _ => by kernel_rfl) (fun _ => trivial) (fun _ => ?_)
  refine J_cond_f (by kernel_rfl) (by kernel_rfl) ?_
  refine J_skip ?_
  refine J_seq ?_
  refine JR_begin mixed [(0, true), (1, false), (2, true)] [] (by kernel_rfl) (by kernel_rfl) ?_
  refine JR_run (id := 16) (rest := [(1, false), (2, true)]) [.rd 0 [] 0 0] [0, 1, 2, 3, 8, 12, 13, 105] (E1 := fun _ => [(0, .val (.slice (some (⟨b1, off1, none⟩)) xs.length ca)), (1, .val (.int .i64 p)), (2, .val (.slice (some (⟨b2, off2, none⟩)) ys.length cb)), (3, .val (.int .i64 q)), (8, .val (.bool false)), (12, .val (.bool false)), (13, .val (.nilIface)), (105, .val (.slice (some (⟨b1, off1, none⟩)) xs.length ca))]) (h1 := fun _ => []) (p1 := fun _ => []) (W1 := []) (fun _ => by kernel_rfl) (fun _ => trivial) (fun _ => ?_)
  refine JR_callp [] 27 #[.slice (some (⟨b1, off1, none⟩)) xs.length ca] (some 106) (by kernel_rfl) (fun w S hG => ?_)
  refine (rWeight (hG.at 1 rfl) hx0).mono ?_
  rintro e10 w10 hR
  refine ⟨_, _, _, hR, ?_⟩
  try simp only [List.cons_append, List.nil_append, List.append_nil]
  refine JR_run (id := 16) (rest := []) [.rd 2 [] 0 0] [0, 1, 2, 3, 8, 12, 13, 15] (E1 := fun _ => [(0, .val (.slice (some (⟨b1, off1, none⟩)) xs.length ca)), (1, .val (.int .i64 p)), (2, .val (.slice (some (⟨b2, off2, none⟩)) ys.length cb)), (3, .val (.int .i64 q)), (8, .val (.bool false)), (12, .val (.bool false)), (13, .val (.nilIface)), (15, .val (.int .i64 (sumL xs)))]) (h1 := fun _ => []) (p1 := fun _ => []) (W1 := []) (fun _ => by kernel_rfl) (fun _ => trivial) (fun _ => ?_)
  refine JR_end ?_
  refine J_seq ?_
  refine JR_begin mixed [(0, true), (1, false), (2, true)] [] (by kernel_rfl) (by kernel_rfl) ?_
  refine JR_run (id := 17) (rest := [(1, false), (2, true)]) [.rd 0 [] 0 0] [0, 1, 2, 3, 8, 12, 13, 15, 107] (E1 := fun _ => [(0, .val (.slice (some (⟨b1, off1, none⟩)) xs.length ca)), (1, .val (.int .i64 p)), (2, .val (.slice (some (⟨b2, off2, none⟩)) ys.length cb)), (3, .val (.int .i64 q)), (8, .val (.bool false)), (12, .val (.bool false)), (13, .val (.nilIface)), (15, .val (.int .i64 (sumL xs))), (107, .val (.slice (some (⟨b2, off2, none⟩)) ys.length cb))]) (h1 := fun _ => []) (p1 := fun _ => []) (W1 := []) (fun _ => by kernel_rfl) (fun _ => trivial) (fun _ => ?_)
  refine JR_callp [] 27 #[.slice (some (⟨b2, off2, none⟩)) ys.length cb] (some 108) (by kernel_rfl) (fun w S hG => ?_)
  refine (rWeight (hG.at 2 rfl) hy0).mono ?_
  rintro e11 w11 hR
  refine ⟨_, _, _, hR, ?_⟩
  try simp only [List.cons_append, List.nil_append, List.append_nil]
  refine JR_run (id := 17) (rest := []) [.rd 2 [] 0 0] [0, 1, 2, 3, 8, 12, 13, 15, 16] (E1 := fun _ => [(0, .val (.slice (some (⟨b1, off1, none⟩)) xs.length ca)), (1, .val (.int .i64 p)), (2, .val (.slice (some (⟨b2, off2, none⟩)) ys.length cb)), (3, .val (.int .i64 q)), (8, .val (.bool false)), (12, .val (.bool false)), (13, .val (.nilIface)), (15, .val (.int .i64 (sumL xs))), (16, .val (.int .i64 (sumL ys)))]) (h1 := fun _ => []) (p1 := fun _ => []) (W1 := []) (fun _ => by kernel_rfl) (fun _ => trivial) (fun _ => ?_)
  refine JR_end ?_
  refine J_seq ?_
  refine J_reg mixed [.rd 0 [] 0 0, .rd 1 [] 0 0, .rd 2 [] 0 7, .rd 3 [] 0 0, .rd 4 [] 0 0, .rd 5 [] 0 0, .rd 6 [] 0 6, .rd 7 [] 0 0, .rd 8 [] 0 0, .rd 9 [] 0 0, .rd 10 [] 0 7, .rd 11 [] 0 0, .rd 12 [] 0 0, .rd 13 [] 0 0, .rd 14 [] 0 0, .rd 15 [] 0 0, .rd 16 [] 0 6, .rd 17 [] 0 0, .rd 18 [] 0 0, .rd 19 [] 0 0, .rd 20 [] 0 6, .rd 21 [] 0 0, .rd 22 [] 0 0, .rd 23 [] 0 0, .rd 24 [] 0 0, .rd 25 [] 0 2, .rd 26 [.r 0 (some (.int .i64 x))] 0 0, .rd 27 [] 0 0, .rd 28 [] 0 0, .rd 29 [] 0 2, .rd 30 [.r 1 (some (.int .i64 y))] 0 0, .rd 31 [] 0 7, .rd 32 [] 0 0, .rd 33 [] 0 0, .rd 34 [] 0 0] [] [0, 1, 2, 3, 8, 12, 13, 15, 16, 17] (E1 := fun _ => [(0, .val (.slice (some (⟨b1, off1, none⟩)) xs.length ca)), (1, .val (.int .i64 p)), (2, .val (.slice (some (⟨b2, off2, none⟩)) ys.length cb)), (3, .val (.int .i64 q)), (8, .val (.bool false)), (12, .val (.bool false)), (13, .val (.nilIface)), (15, .val (.int .i64 (sumL xs))), (16, .val (.int .i64 (sumL ys))), (17, .val (.bool false))]) (h1 := fun _ => []) (p1 := fun _ => [decide (sumL xs < sumL ys) = false, (sumL xs == sumL ys) = true, decide (p < q) = false, (sumL xs == sumL ys) = true, (p == q) = true, (0 : Int) ≤ p, p < (↑xs.length : Int), cs1[off1 + p.toNat * (1 : Nat)]? = some (Value.int IntKind.i64 x), (0 : Int) ≤ p, p < (↑ys.length : Int), cs2[off2 + p.toNat * (1 : Nat)]? = some (Value.int IntKind.i64 y), decide (x < y) = false]) (W1 := []) (by kernel_rfl) (fun _ => by kernel_rfl) (fun _ => ⟨by simp; omega, by simp; omega, by simp; omega, by simp; omega, by simp; omega, hp0, hp1, hrd1_0, hp0, by omega, hrd2_0, by simp; omega, trivial⟩) (fun _ => ?_)
  refine J_seq ?_
  refine JR_begin mixed [(0, true), (1, false), (2, true), (3, true), (4, false), (5, true), (6, false), (7, true), (8, true), (9, true), (10, true), (11, true)] [] (by kernel_rfl) (by kernel_rfl) ?_
  refine JR_run (id := 19) (rest := [(1, false), (2, true), (3, true), (4, false), (5, true), (6, false), (7, true), (8, true), (9, true), (10, true), (11, true)]) [.rd 0 [] 0 0] [0, 1, 2, 3, 8, 12, 13, 15, 16, 17, 144] (E1 := fun _ => [(0, .val (.slice (some (⟨b1, off1, none⟩)) xs.length ca)), (1, .val (.int .i64 p)), (2, .val (.slice (some (⟨b2, off2, none⟩)) ys.length cb)), (3, .val (.int .i64 q)), (8, .val (.bool false)), (12, .val (.bool false)), (13, .val (.nilIface)), (15, .val (.int .i64 (sumL xs))), (16, .val (.int .i64 (sumL ys))), (17, .val (.bool false)), (144, .val (.slice (some (⟨b2, off2, none⟩)) ys.length cb))]) (h1 := fun _ => []) (p1 := fun _ => []) (W1 := []) (fun _ => by kernel_rfl) (fun _ => trivial) (fun _ => ?_)
  refine JR_callp [] 13 #[.slice (some (⟨b2, off2, none⟩)) ys.length cb] (some 145) (by kernel_rfl) (fun w S hG => ?_)
  refine (vown (hG.at 2 rfl) (by omega)).mono ?_
  rintro e12 w12 ⟨oa12, oc12, hR⟩
  refine ⟨_, _, _, hR, ?_⟩
  try simp only [List.cons_append, List.nil_append, List.append_nil]
  refine JR_run (id := 19) (rest := [(4, false), (5, true), (6, false), (7, true), (8, true), (9, true), (10, true), (11, true)]) [.rd 2 [] 0 0, .rd 3 [] 0 0] [0, 1, 2, 3, 8, 12, 13, 15, 16, 17, 145, 146, 147] (E1 := fun _ => [(0, .val (.slice (some (⟨b1, off1, none⟩)) xs.length ca)), (1, .val (.int .i64 p)), (2, .val (.slice (some (⟨b2, off2, none⟩)) ys.length cb)), (3, .val (.int .i64 q)), (8, .val (.bool false)), (12, .val (.bool false)), (13, .val (.nilIface)), (15, .val (.int .i64 (sumL xs))), (16, .val (.int .i64 (sumL ys))), (17, .val (.bool false)), (145, .val (.slice oa12 ys.length oc12)), (146, .val (.int .i64 q)), (147, .val (.slice (some (⟨b1, off1, none⟩)) xs.length ca))]) (h1 := fun _ => []) (p1 := fun _ => []) (W1 := []) (fun _ => by kernel_rfl) (fun _ => trivial) (fun _ => ?_)
  refine JR_callp [] 13 #[.slice (some (⟨b1, off1, none⟩)) xs.length ca] (some 148) (by kernel_rfl) (fun w S hG => ?_)
  refine (vown (hG.at 1 rfl) (by omega)).mono ?_
  rintro e13 w13 ⟨oa13, oc13, hR⟩
  refine ⟨_, _, _, hR, ?_⟩
  try simp only [List.cons_append, List.nil_append, List.append_nil]
  refine JR_run (id := 19) (rest := [(6, false), (7, true), (8, true), (9, true), (10, true), (11, true)]) [.rd 5 [] 0 0] [0, 1, 2, 3, 8, 12, 13, 15, 16, 17, 145, 146, 148, 149] (E1 := fun _ => [(0, .val (.slice (some (⟨b1, off1, none⟩)) xs.length ca)), (1, .val (.int .i64 p)), (2, .val (.slice (some (⟨b2, off2, none⟩)) ys.length cb)), (3, .val (.int .i64 q)), (8, .val (.bool false)), (12, .val (.bool false)), (13, .val (.nilIface)), (15, .val (.int .i64 (sumL xs))), (16, .val (.int .i64 (sumL ys))), (17, .val (.bool false)), (145, .val (.slice oa12 ys.length oc12)), (146, .val (.int .i64 q)), (148, .val (.slice oa13 xs.length oc13)), (149, .val (.int .i64 p))]) (h1 := fun _ => []) (p1 := fun _ => []) (W1 := []) (fun _ => by kernel_rfl) (fun _ => trivial) (fun _ => ?_)
  refine JR_callp [] 26 #[.slice oa12 ys.length oc12, .int .i64 q, .slice oa13 xs.length oc13, .int .i64 p] (some 150) (by kernel_rfl) (fun w S hG => ?_)
  refine (vahead (globs_of (hG.at 0 rfl)) (hG.at 6 rfl) (hG.at 7 rfl) (by omega) (by omega)).mono ?_
  rintro e14 w14 (⟨h4, hR⟩ | ⟨h4, hbnd, hR⟩ | ⟨h4, _, _, _, _, x2, y2, hx2, hy2, hR⟩)
  · exact absurd (two_of hy0 hx0 hxy.symm) h4
  · omega
  rw [← h2', hy] at hx2
  rw [← h2', hx] at hy2
  cases hx2
  cases hy2
  have hB : aheadB (sumL ys) (sumL xs) q p y x = true := by simp [aheadB]; omega
  rw [hB] at hR
  refine ⟨_, _, _, hR, ?_⟩
  try simp only [List.cons_append, List.nil_append, List.append_nil]
  refine JR_run (id := 19) (rest := []) [.rd 7 [] 0 0, .rd 8 [] 0 0, .rd 9 [] 0 0, .rd 10 [] 0 0, .rd 11 [] 0 0] [0, 1, 2, 3, 8, 12, 13, 15, 16, 17, 18, 19] (E1 := fun _ => [(0, .val (.slice (some (⟨b1, off1, none⟩)) xs.length ca)), (1, .val (.int .i64 p)), (2, .val (.slice (some (⟨b2, off2, none⟩)) ys.length cb)), (3, .val (.int .i64 q)), (8, .val (.bool false)), (12, .val (.bool false)), (13, .val (.nilIface)), (15, .val (.int .i64 (sumL xs))), (16, .val (.int .i64 (sumL ys))), (17, .val (.bool false)), (18, .val (.bool true)), (19, .val (.nilIface))]) (h1 := fun _ => []) (p1 := fun _ => []) (W1 := []) (fun _ => by kernel_rfl) (fun _ => trivial) (fun _ => ?_)
  refine JR_end ?_
  refine J_seq ?_
  refine J_seq ?_
  refine J_reg mixed [.rd 0 [] 0 0, .rd 1 [] 0 0, .rd 2 [] 0 0, .rd 3 [] 0 0, .rd 4 [] 0 0, .rd 5 [] 0 0, .rd 6 [] 0 0, .rd 7 [] 0 0, .rd 8 [] 0 0, .rd 9 [] 0 0, .rd 10 [] 0 0] [] [0, 1, 2, 3, 8, 12, 15, 16, 18, 163] (E1 := fun _ => [(0, .val (.slice (some (⟨b1, off1, none⟩)) xs.length ca)), (1, .val (.int .i64 p)), (2, .val (.slice (some (⟨b2, off2, none⟩)) ys.length cb)), (3, .val (.int .i64 q)), (8, .val (.bool false)), (12, .val (.bool false)), (15, .val (.int .i64 (sumL xs))), (16, .val (.int .i64 (sumL ys))), (18, .val (.bool true)), (163, .val (.bool false))]) (h1 := fun _ => []) (p1 := fun _ => []) (W1 := []) (by kernel_rfl) (fun _ => by kernel_rfl) (fun _ => trivial) (fun _ => ?_)
  refine J_cond_f (by kernel_rfl) (by kernel_rfl) ?_
  refine J_skip ?_
  refine J_seq ?_
  refine JR_begin mixed [(0, true), (1, true), (2, false), (3, true)] [] (by kernel_rfl) (by kernel_rfl) ?_
  refine JR_run (id := 22) (rest := [(2, false), (3, true)]) [.rd 0 [] 0 0, .rd 1 [] 0 0] [0, 1, 2, 3, 8, 12, 15, 16, 18, 164, 165] (E1 := fun _ => [(0, .val (.slice (some (⟨b1, off1, none⟩)) xs.length ca)), (1, .val (.int .i64 p)), (2, .val (.slice (some (⟨b2, off2, none⟩)) ys.length cb)), (3, .val (.int .i64 q)), (8, .val (.bool false)), (12, .val (.bool false)), (15, .val (.int .i64 (sumL xs))), (16, .val (.int .i64 (sumL ys))), (18, .val (.bool true)), (164, .val (.slice (some (⟨b1, off1, none⟩)) xs.length ca)), (165, .val (.slice (some (⟨b2, off2, none⟩)) ys.length cb))]) (h1 := fun _ => []) (p1 := fun _ => []) (W1 := []) (fun _ => by kernel_rfl) (fun _ => trivial) (fun _ => ?_)
  cases hin : inL xs ys
  · skip
    refine JR_callp [] 23 #[.slice (some (⟨b1, off1, none⟩)) xs.length ca, .slice (some (⟨b2, off2, none⟩)) ys.length cb] (some 166) (by kernel_rfl) (fun w S hG => ?_)
    refine (rIn (hG.at 1 rfl) (hG.at 2 rfl) (by omega) hxy).mono ?_
    rintro e15 w15 hR
    rw [hin] at hR
    refine ⟨_, _, _, hR, ?_⟩
    try simp only [List.cons_append, List.nil_append, List.append_nil]
    refine JR_run (id := 22) (rest := []) [.rd 3 [] 0 0] [0, 1, 2, 3, 8, 12, 15, 16, 18, 20] (E1 := fun _ => [(0, .val (.slice (some (⟨b1, off1, none⟩)) xs.length ca)), (1, .val (.int .i64 p)), (2, .val (.slice (some (⟨b2, off2, none⟩)) ys.length cb)), (3, .val (.int .i64 q)), (8, .val (.bool false)), (12, .val (.bool false)), (15, .val (.int .i64 (sumL xs))), (16, .val (.int .i64 (sumL ys))), (18, .val (.bool true)), (20, .val (.bool false))]) (h1 := fun _ => []) (p1 := fun _ => []) (W1 := []) (fun _ => by kernel_rfl) (fun _ => trivial) (fun _ => ?_)
    refine JR_end ?_
    refine J_seq ?_
    refine J_seq ?_
    refine J_reg mixed [.rd 0 [] 0 0, .rd 1 [] 0 0, .rd 2 [] 1 0, .rd 3 [] 1 0, .wr 4 [] 1, .rd 5 [] 1 0, .rd 6 [] 0 0, .rd 7 [] 0 0, .rd 8 [] 1 0, .rd 9 [] 1 0, .rd 10 [] 0 0] [] [0, 1, 2, 3, 8, 12, 15, 16, 18, 177] (E1 := fun _ => [(0, .val (.slice (some (⟨b1, off1, none⟩)) xs.length ca)), (1, .val (.int .i64 p)), (2, .val (.slice (some (⟨b2, off2, none⟩)) ys.length cb)), (3, .val (.int .i64 q)), (8, .val (.bool false)), (12, .val (.bool false)), (15, .val (.int .i64 (sumL xs))), (16, .val (.int .i64 (sumL ys))), (18, .val (.bool true)), (177, .val (.bool false))]) (h1 := fun _ => []) (p1 := fun _ => []) (W1 := []) (by kernel_rfl) (fun _ => by kernel_rfl) (fun _ => trivial) (fun _ => ?_)
    refine J_cond_f (by kernel_rfl) (by kernel_rfl) ?_
    refine J_skip ?_
    refine J_seq ?_
    refine J_seq ?_
    refine J_reg mixed [.rd 0 [] 0 0, .rd 1 [] 0 0, .rd 2 [] 0 6, .rd 3 [] 0 0, .rd 4 [] 0 0, .rd 5 [] 0 0, .rd 6 [] 0 6, .rd 7 [] 0 0, .rd 8 [] 0 0, .rd 9 [] 0 0, .rd 10 [] 0 0, .rd 11 [] 0 2, .rd 12 [.r 0 (some (.int .i64 x))] 0 0, .rd 13 [] 0 0, .rd 14 [] 0 0, .rd 15 [] 0 2, .rd 16 [.r 1 (some (.int .i64 y))] 0 0, .rd 17 [] 0 7, .rd 18 [] 0 0] [] [8, 12, 18, 196] (E1 := fun _ => [(8, .val (.bool false)), (12, .val (.bool false)), (18, .val (.bool true)), (196, .val (.bool false))]) (h1 := fun _ => []) (p1 := fun _ => [(sumL xs == sumL ys) = true, (p == q) = true, (0 : Int) ≤ p, p < (↑xs.length : Int), cs1[off1 + p.toNat * (1 : Nat)]? = some (Value.int IntKind.i64 x), (0 : Int) ≤ p, p < (↑ys.length : Int), cs2[off2 + p.toNat * (1 : Nat)]? = some (Value.int IntKind.i64 y), (x == y) = false]) (W1 := []) (by kernel_rfl) (fun _ => by kernel_rfl) (fun _ => ⟨by simp; omega, by simp; omega, hp0, hp1, hrd1_0, hp0, by omega, hrd2_0, by simp; omega, trivial⟩) (fun _ => ?_)
    refine J_cond_f (by kernel_rfl) (by kernel_rfl) ?_
    refine J_skip ?_
    refine J_seq ?_
    refine J_reg mixed [.rd 0 [] 0 0, .rd 1 [] 0 0, .rd 2 [] 0 0, .rd 3 [] 0 0] [] [8] (E1 := fun _ => [(8, .val (.bool true))]) (h1 := fun _ => []) (p1 := fun _ => []) (W1 := []) (by kernel_rfl) (fun _ => by kernel_rfl) (fun _ => trivial) (fun _ => ?_)
    refine J_return [[]] (.bool true) (by kernel_rfl) (fun a w s => ?_)
    exact s.ret (by simp) [] [] rfl rfl
  · skip
    refine JR_callp [] 23 #[.slice (some (⟨b1, off1, none⟩)) xs.length ca, .slice (some (⟨b2, off2, none⟩)) ys.length cb] (some 166) (by kernel_rfl) (fun w S hG => ?_)
    refine (rIn (hG.at 1 rfl) (hG.at 2 rfl) (by omega) hxy).mono ?_
    rintro e16 w16 hR
    rw [hin] at hR
    refine ⟨_, _, _, hR, ?_⟩
    try simp only [List.cons_append, List.nil_append, List.append_nil]
    refine JR_run (id := 22) (rest := []) [.rd 3 [] 0 0] [0, 1, 2, 3, 8, 12, 15, 16, 18, 20] (E1 := fun _ => [(0, .val (.slice (some (⟨b1, off1, none⟩)) xs.length ca)), (1, .val (.int .i64 p)), (2, .val (.slice (some (⟨b2, off2, none⟩)) ys.length cb)), (3, .val (.int .i64 q)), (8, .val (.bool false)), (12, .val (.bool false)), (15, .val (.int .i64 (sumL xs))), (16, .val (.int .i64 (sumL ys))), (18, .val (.bool true)), (20, .val (.bool true))]) (h1 := fun _ => []) (p1 := fun _ => []) (W1 := []) (fun _ => by kernel_rfl) (fun _ => trivial) (fun _ => ?_)
    refine JR_end ?_
    refine J_seq ?_
    refine J_seq ?_
    refine JR_begin mixed [(0, true), (1, true), (2, true), (3, true), (4, false), (5, true), (6, true), (7, true), (8, true), (9, true), (10, true)] [] (by kernel_rfl) (by kernel_rfl) ?_
    refine JR_run (id := 23) (rest := [(4, false), (5, true), (6, true), (7, true), (8, true), (9, true), (10, true)]) [.rd 0 [] 0 0, .rd 1 [] 0 0, .rd 2 [] 0 0, .rd 3 [] 0 0] [0, 1, 2, 3, 8, 12, 15, 16, 18, 168, 169, 170] (E1 := fun _ => [(0, .val (.slice (some (⟨b1, off1, none⟩)) xs.length ca)), (1, .val (.int .i64 p)), (2, .val (.slice (some (⟨b2, off2, none⟩)) ys.length cb)), (3, .val (.int .i64 q)), (8, .val (.bool false)), (12, .val (.bool false)), (15, .val (.int .i64 (sumL xs))), (16, .val (.int .i64 (sumL ys))), (18, .val (.bool true)), (168, .val (.bool true)), (169, .val (.slice (some (⟨b1, off1, none⟩)) xs.length ca)), (170, .val (.slice (some (⟨b2, off2, none⟩)) ys.length cb))]) (h1 := fun _ => []) (p1 := fun _ => []) (W1 := []) (fun _ => by kernel_rfl) (fun _ => trivial) (fun _ => ?_)
    have heq : xs = ys := by rcases (hsum hin).2 with h | h; omega; exact h
    refine JR_callp [] 16 #[.slice (some (⟨b1, off1, none⟩)) xs.length ca, .slice (some (⟨b2, off2, none⟩)) ys.length cb] (some 171) (by kernel_rfl) (fun w S hG => ?_)
    refine (sameInts (hG.at 1 rfl) (hG.at 2 rfl) (by omega)).mono ?_
    rintro e17 w17 hR
    rw [decide_eq_true heq] at hR
    refine ⟨_, _, _, hR, ?_⟩
    try simp only [List.cons_append, List.nil_append, List.append_nil]
    refine JR_run (id := 23) (rest := []) [.rd 5 [] 0 0, .rd 6 [] 0 0, .rd 7 [] 0 0, .rd 8 [] 1 0, .rd 9 [] 1 0, .rd 10 [] 0 0] [0, 1, 2, 3, 8, 12, 15, 16, 18, 177] (E1 := fun _ => [(0, .val (.slice (some (⟨b1, off1, none⟩)) xs.length ca)), (1, .val (.int .i64 p)), (2, .val (.slice (some (⟨b2, off2, none⟩)) ys.length cb)), (3, .val (.int .i64 q)), (8, .val (.bool false)), (12, .val (.bool false)), (15, .val (.int .i64 (sumL xs))), (16, .val (.int .i64 (sumL ys))), (18, .val (.bool true)), (177, .val (.bool false))]) (h1 := fun _ => []) (p1 := fun _ => []) (W1 := []) (fun _ => by kernel_rfl) (fun _ => trivial) (fun _ => ?_)
    refine JR_end ?_
    refine J_cond_f (by kernel_rfl) (by kernel_rfl) ?_
    refine J_skip ?_
    refine J_seq ?_
    refine J_seq ?_
    refine J_reg mixed [.rd 0 [] 0 0, .rd 1 [] 0 0, .rd 2 [] 0 6, .rd 3 [] 0 0, .rd 4 [] 0 0, .rd 5 [] 0 0, .rd 6 [] 0 6, .rd 7 [] 0 0, .rd 8 [] 0 0, .rd 9 [] 0 0, .rd 10 [] 0 0, .rd 11 [] 0 2, .rd 12 [.r 0 (some (.int .i64 x))] 0 0, .rd 13 [] 0 0, .rd 14 [] 0 0, .rd 15 [] 0 2, .rd 16 [.r 1 (some (.int .i64 y))] 0 0, .rd 17 [] 0 7, .rd 18 [] 0 0] [] [8, 12, 18, 196] (E1 := fun _ => [(8, .val (.bool false)), (12, .val (.bool false)), (18, .val (.bool true)), (196, .val (.bool false))]) (h1 := fun _ => []) (p1 := fun _ => [(sumL xs == sumL ys) = true, (p == q) = true, (0 : Int) ≤ p, p < (↑xs.length : Int), cs1[off1 + p.toNat * (1 : Nat)]? = some (Value.int IntKind.i64 x), (0 : Int) ≤ p, p < (↑ys.length : Int), cs2[off2 + p.toNat * (1 : Nat)]? = some (Value.int IntKind.i64 y), (x == y) = false]) (W1 := []) (by kernel_rfl) (fun _ => by kernel_rfl) (fun _ => ⟨by simp; omega, by simp; omega, hp0, hp1, hrd1_0, hp0, by omega, hrd2_0, by simp; omega, trivial⟩) (fun _ => ?_)
    refine J_cond_f (by kernel_rfl) (by kernel_rfl) ?_
    refine J_skip ?_
    refine J_seq ?_
    refine J_reg mixed [.rd 0 [] 0 0, .rd 1 [] 0 0, .rd 2 [] 0 0, .rd 3 [] 0 0] [] [8] (E1 := fun _ => [(8, .val (.bool true))]) (h1 := fun _ => []) (p1 := fun _ => []) (W1 := []) (by kernel_rfl) (fun _ => by kernel_rfl) (fun _ => trivial) (fun _ => ?_)
    refine J_return [[]] (.bool true) (by kernel_rfl) (fun a w s => ?_)
    exact s.ret (by simp) [] [] rfl rfl

set_option maxHeartbeats 16000000 in
theorem vaheadC6 {w : World} {S : Nat → Prop} {er : Nat → Addr} {eb : Nat → Array Value × TypeId} {a b : Option Addr} {n m ca cb : Nat} {xs ys : List Int} {p q : Int} (hC : Rep w S .nilIface (dC er eb)) (hI : Inj er) (ha : Rep w S (.slice a n ca) (dInts xs)) (hb : Rep w S (.slice b m cb) (dInts ys)) {x y : Int} (hab : twoErr xs ys = 0) (hp0 : 0 ≤ p) (hp1 : p < xs.length) (hq0 : 0 ≤ q) (hq1 : q < xs.length) (hx : xs[p.toNat]? = some x) (hy : ys[p.toNat]? = some y) (h1 : sumL xs = sumL ys) (h2' : p = q) (h3 : x = y) :
    Calls Tryd.prog 6 #[.slice a n ca, .int .i64 p, .slice b m cb, .int .i64 q] w fun e w' => Ret [] w S w' e (.bool true) [] [] := by
  obtain rfl := rep_ints_len ha
  obtain rfl := rep_ints_len hb
  refine ep6 (args := [.slice a xs.length ca, .int .i64 p, .slice b ys.length cb, .int .i64 q]) (G := [(_, dC er eb), (_, dInts xs), (_, dInts ys)]) (by kernel_rfl) (.cons hC (.cons ha (.cons hb (.nil _ _)))) ?_
  refine J_seq ?_
  refine J_reg mixed [.rd 0 [] 0 0] [] [0, 1, 2, 3, 8] (E1 := fun _ => [(0, .val (.slice a xs.length ca)), (1, .val (.int .i64 p)), (2, .val (.slice b ys.length cb)), (3, .val (.int .i64 q)), (8, .val (.bool false))]) (h1 := fun _ => []) (p1 := fun _ => []) (W1 := []) (by kernel_rfl) (fun _ => by kernel_rfl) (fun _ => trivial) (fun _ => ?_)
  refine J_seq ?_
  refine JR_begin mixed [(0, false), (1, true)] [] (by kernel_rfl) (by kernel_rfl) ?_
  refine JR_callp [] 11 #[] (some 21) (by kernel_rfl) (fun w S hG => ?_)
  refine (vtimed (globs_of (hG.at 0 rfl))).mono ?_
  rintro e1 w1 hR
  refine ⟨_, _, _, hR, ?_⟩
  try simp only [List.cons_append, List.nil_append, List.append_nil]
  refine JR_run (id := 1) (rest := []) [.rd 1 [] 0 0] [0, 1, 2, 3, 8, 9] (E1 := fun _ => [(0, .val (.slice a xs.length ca)), (1, .val (.int .i64 p)), (2, .val (.slice b ys.length cb)), (3, .val (.int .i64 q)), (8, .val (.bool false)), (9, .val (.bool true))]) (h1 := fun _ => []) (p1 := fun _ => []) (W1 := []) (fun _ => by kernel_rfl) (fun _ => trivial) (fun _ => ?_)
  refine JR_end ?_
  refine J_seq ?_
  refine J_seq ?_
  refine J_reg mixed [.rd 0 [] 0 0, .rd 1 [] 0 0, .rd 2 [] 0 0, .rd 3 [] 0 0, .rd 4 [] 0 0, .rd 5 [] 0 0, .rd 6 [] 0 0, .rd 7 [] 0 0, .rd 8 [] 2 0, .rd 9 [] 2 0, .rd 10 [] 2 0, .rd 11 [] 0 3] [] [0, 1, 2, 3, 8, 9, 33] (E1 := fun _ => [(0, .val (.slice a xs.length ca)), (1, .val (.int .i64 p)), (2, .val (.slice b ys.length cb)), (3, .val (.int .i64 q)), (8, .val (.bool false)), (9, .val (.bool true)), (33, .val (.bool (decide ((↑xs.length : Int) > 20) || decide ((↑ys.length : Int) > 20))))]) (h1 := fun _ => []) (p1 := fun _ => []) (W1 := []) (by kernel_rfl) (fun _ => by kernel_rfl) (fun _ => trivial) (fun _ => ?_)
  refine J_cond (t := decide ((↑xs.length : Int) > 20) || decide ((↑ys.length : Int) > 20)) (by kernel_rfl) (by kernel_rfl) (fun hbad => ?_) (fun hbad => ?_)
  · refine J_seq ?_
    refine J_reg mixed [.rd 0 [] 0 0, .rd 1 [] 0 0] [] [0, 1, 2, 3, 8] (E1 := fun _ => [(0, .val (.slice a xs.length ca)), (1, .val (.int .i64 p)), (2, .val (.slice b ys.length cb)), (3, .val (.int .i64 q)), (8, .val (.bool true))]) (h1 := fun _ => []) (p1 := fun _ => []) (W1 := []) (by kernel_rfl) (fun _ => by kernel_rfl) (fun _ => trivial) (fun _ => ?_)
    refine J_return [[]] (.bool true) (by kernel_rfl) (fun a w s => ?_)
    exact s.ret (by simp) [] [] rfl rfl
  obtain ⟨hl1, hl2⟩ : xs.length ≤ 20 ∧ ys.length ≤ 20 := by simp at hbad; omega
  refine J_skip ?_
  refine J_seq ?_
  refine JR_begin mixed [(0, true), (1, false), (2, false), (3, true), (4, true), (5, true), (6, true), (7, true)] [] (by kernel_rfl) (by kernel_rfl) ?_
  refine JR_run (id := 4) (rest := [(1, false), (2, false), (3, true), (4, true), (5, true), (6, true), (7, true)]) [.rd 0 [] 0 0] [0, 1, 2, 3, 8, 36] (E1 := fun _ => [(0, .val (.slice a xs.length ca)), (1, .val (.int .i64 p)), (2, .val (.slice b ys.length cb)), (3, .val (.int .i64 q)), (8, .val (.bool false)), (36, .val (.slice a xs.length ca))]) (h1 := fun _ => []) (p1 := fun _ => []) (W1 := []) (fun _ => by kernel_rfl) (fun _ => trivial) (fun _ => ?_)
  obtain ⟨hx0, hy0, hxy⟩ := twoErr_fine hab
  have hsum := @in_sum xs ys hxy
  refine JR_callp [] 13 #[.slice a xs.length ca] (some 37) (by kernel_rfl) (fun w S hG => ?_)
  refine (vown (hG.at 1 rfl) (by omega)).mono ?_
  rintro e2 w2 ⟨oa2, oc2, hR⟩
  refine ⟨_, _, _, hR, ?_⟩
  try simp only [List.cons_append, List.nil_append, List.append_nil]
  refine JR_callp [] 17 #[.slice oa2 xs.length oc2] (some 38) (by kernel_rfl) (fun w S hG => ?_)
  refine (vweight (globs_of (hG.at 0 rfl)) (hG.at 3 rfl) (by omega)).mono ?_
  rintro e3 w3 (⟨h9, hR⟩ | ⟨h9, hR⟩)
  · exact absurd hx0 h9
  refine ⟨_, _, _, hR, ?_⟩
  try simp only [List.cons_append, List.nil_append, List.append_nil]
  refine JR_run (id := 4) (rest := []) [.rd 3 [] 0 0, .rd 4 [] 0 0, .rd 5 [] 0 0, .rd 6 [] 0 0, .rd 7 [] 0 0] [0, 1, 2, 3, 8, 10, 11] (E1 := fun _ => [(0, .val (.slice a xs.length ca)), (1, .val (.int .i64 p)), (2, .val (.slice b ys.length cb)), (3, .val (.int .i64 q)), (8, .val (.bool false)), (10, .val (.int .i64 (sumL xs))), (11, .val (.nilIface))]) (h1 := fun _ => []) (p1 := fun _ => []) (W1 := []) (fun _ => by kernel_rfl) (fun _ => trivial) (fun _ => ?_)
  refine JR_end ?_
  refine J_seq ?_
  refine JR_begin mixed [(0, true), (1, false), (2, true), (3, true), (4, false), (5, true), (6, false), (7, true), (8, true), (9, true), (10, true), (11, true)] [] (by kernel_rfl) (by kernel_rfl) ?_
  refine JR_run (id := 5) (rest := [(1, false), (2, true), (3, true), (4, false), (5, true), (6, false), (7, true), (8, true), (9, true), (10, true), (11, true)]) [.rd 0 [] 0 0] [0, 1, 2, 3, 8, 10, 11, 42] (E1 := fun _ => [(0, .val (.slice a xs.length ca)), (1, .val (.int .i64 p)), (2, .val (.slice b ys.length cb)), (3, .val (.int .i64 q)), (8, .val (.bool false)), (10, .val (.int .i64 (sumL xs))), (11, .val (.nilIface)), (42, .val (.slice a xs.length ca))]) (h1 := fun _ => []) (p1 := fun _ => []) (W1 := []) (fun _ => by kernel_rfl) (fun _ => trivial) (fun _ => ?_)
  refine JR_callp [] 13 #[.slice a xs.length ca] (some 43) (by kernel_rfl) (fun w S hG => ?_)
  refine (vown (hG.at 1 rfl) (by omega)).mono ?_
  rintro e4 w4 ⟨oa4, oc4, hR⟩
  refine ⟨_, _, _, hR, ?_⟩
  try simp only [List.cons_append, List.nil_append, List.append_nil]
  refine JR_run (id := 5) (rest := [(4, false), (5, true), (6, false), (7, true), (8, true), (9, true), (10, true), (11, true)]) [.rd 2 [] 0 0, .rd 3 [] 0 0] [0, 1, 2, 3, 8, 10, 11, 43, 44, 45] (E1 := fun _ => [(0, .val (.slice a xs.length ca)), (1, .val (.int .i64 p)), (2, .val (.slice b ys.length cb)), (3, .val (.int .i64 q)), (8, .val (.bool false)), (10, .val (.int .i64 (sumL xs))), (11, .val (.nilIface)), (43, .val (.slice oa4 xs.length oc4)), (44, .val (.int .i64 p)), (45, .val (.slice b ys.length cb))]) (h1 := fun _ => []) (p1 := fun _ => []) (W1 := []) (fun _ => by kernel_rfl) (fun _ => trivial) (fun _ => ?_)
  refine JR_callp [] 13 #[.slice b ys.length cb] (some 46) (by kernel_rfl) (fun w S hG => ?_)
  refine (vown (hG.at 2 rfl) (by omega)).mono ?_
  rintro e5 w5 ⟨oa5, oc5, hR⟩
  refine ⟨_, _, _, hR, ?_⟩
  try simp only [List.cons_append, List.nil_append, List.append_nil]
  refine JR_run (id := 5) (rest := [(6, false), (7, true), (8, true), (9, true), (10, true), (11, true)]) [.rd 5 [] 0 0] [0, 1, 2, 3, 8, 10, 11, 43, 44, 46, 47] (E1 := fun _ => [(0, .val (.slice a xs.length ca)), (1, .val (.int .i64 p)), (2, .val (.slice b ys.length cb)), (3, .val (.int .i64 q)), (8, .val (.bool false)), (10, .val (.int .i64 (sumL xs))), (11, .val (.nilIface)), (43, .val (.slice oa4 xs.length oc4)), (44, .val (.int .i64 p)), (46, .val (.slice oa5 ys.length oc5)), (47, .val (.int .i64 q))]) (h1 := fun _ => []) (p1 := fun _ => []) (W1 := []) (fun _ => by kernel_rfl) (fun _ => trivial) (fun _ => ?_)
  refine JR_callp [] 26 #[.slice oa4 xs.length oc4, .int .i64 p, .slice oa5 ys.length oc5, .int .i64 q] (some 48) (by kernel_rfl) (fun w S hG => ?_)
  refine (vahead (globs_of (hG.at 0 rfl)) (hG.at 4 rfl) (hG.at 5 rfl) (by omega) (by omega)).mono ?_
  rintro e6 w6 (⟨h2, hR⟩ | ⟨h2, hbnd, hR⟩ | ⟨h2, _, _, _, _, x', y', hx', hy', hR⟩)
  · exact absurd hab h2
  · omega
  rw [hx] at hx'
  rw [hy] at hy'
  cases hx'
  cases hy'
  have hA : aheadB (sumL xs) (sumL ys) p q x y = false := by simp [aheadB]; omega
  rw [hA] at hR
  refine ⟨_, _, _, hR, ?_⟩
  try simp only [List.cons_append, List.nil_append, List.append_nil]
  refine JR_run (id := 5) (rest := []) [.rd 7 [] 0 0, .rd 8 [] 0 0, .rd 9 [] 0 0, .rd 10 [] 0 0, .rd 11 [] 0 0] [0, 1, 2, 3, 8, 10, 11, 12, 13] (E1 := fun _ => [(0, .val (.slice a xs.length ca)), (1, .val (.int .i64 p)), (2, .val (.slice b ys.length cb)), (3, .val (.int .i64 q)), (8, .val (.bool false)), (10, .val (.int .i64 (sumL xs))), (11, .val (.nilIface)), (12, .val (.bool false)), (13, .val (.nilIface))]) (h1 := fun _ => []) (p1 := fun _ => []) (W1 := []) (fun _ => by kernel_rfl) (fun _ => trivial) (fun _ => ?_)
  refine JR_end ?_
  refine J_seq ?_
  refine J_seq ?_
  refine J_read0 1 rfl p.toNat (map_at hx) (by kernel_rfl) (fun b1 off1 cs1 ty1 fz1 ha1 hrd1 => ?_)
  cases ha1
  have hrd1_0 := rd0 (hrd1 0 _ rfl)
  refine J_read0 2 rfl p.toNat (map_at hy) (by kernel_rfl) (fun b2 off2 cs2 ty2 fz2 ha2 hrd2 => ?_)
  cases ha2
  have hrd2_0 := rd0 (hrd2 0 _ rfl)
  try simp only [List.cons_append, List.nil_append, List.append_nil]
  refine JR_begin mixed [(0, true), (1, false), (2, true)] [] (by kernel_rfl) (by kernel_rfl) ?_
  refine JR_run (id := 6) (rest := [(1, false), (2, true)]) [.rd 0 [] 0 0] [0, 1, 2, 3, 8, 10, 11, 12, 13, 51] (E1 := fun _ => [(0, .val (.slice (some (⟨b1, off1, none⟩)) xs.length ca)), (1, .val (.int .i64 p)), (2, .val (.slice (some (⟨b2, off2, none⟩)) ys.length cb)), (3, .val (.int .i64 q)), (8, .val (.bool false)), (10, .val (.int .i64 (sumL xs))), (11, .val (.nilIface)), (12, .val (.bool false)), (13, .val (.nilIface)), (51, .val (.slice (some (⟨b1, off1, none⟩)) xs.length ca))]) (h1 := fun _ => []) (p1 := fun _ => []) (W1 := []) (fun _ => by kernel_rfl) (fun _ => trivial) (fun _ => ?_)
  refine JR_callp [] 22 #[.slice (some (⟨b1, off1, none⟩)) xs.length ca] (some 52) (by kernel_rfl) (fun w S hG => ?_)
  refine (rVecErr (hG.at 1 rfl) (by omega)).mono ?_
  rintro e7 w7 hR
  rw [hx0] at hR
  refine ⟨_, _, _, hR, ?_⟩
  try simp only [List.cons_append, List.nil_append, List.append_nil]
  refine JR_run (id := 6) (rest := []) [.rd 2 [] 0 0] [0, 1, 2, 3, 8, 10, 11, 12, 13, 53] (E1 := fun _ => [(0, .val (.slice (some (⟨b1, off1, none⟩)) xs.length ca)), (1, .val (.int .i64 p)), (2, .val (.slice (some (⟨b2, off2, none⟩)) ys.length cb)), (3, .val (.int .i64 q)), (8, .val (.bool false)), (10, .val (.int .i64 (sumL xs))), (11, .val (.nilIface)), (12, .val (.bool false)), (13, .val (.nilIface)), (53, .val (.bool false))]) (h1 := fun _ => []) (p1 := fun _ => []) (W1 := []) (fun _ => by kernel_rfl) (fun _ => trivial) (fun _ => ?_)
  refine JR_end ?_
  refine J_cond_f (by kernel_rfl) (by kernel_rfl) ?_
  refine J_seq ?_
  refine JR_begin mixed [(0, true), (1, true), (2, true), (3, true), (4, true), (5, false), (6, true), (7, true)] [] (by kernel_rfl) (by kernel_rfl) ?_
  refine JR_run (id := 9) (rest := [(5, false), (6, true), (7, true)]) [.rd 0 [] 0 0, .rd 1 [] 0 0, .rd 2 [] 0 0, .rd 3 [] 0 0, .rd 4 [] 0 0] [0, 1, 2, 3, 8, 12, 13, 65, 66, 67] (E1 := fun _ => [(0, .val (.slice (some (⟨b1, off1, none⟩)) xs.length ca)), (1, .val (.int .i64 p)), (2, .val (.slice (some (⟨b2, off2, none⟩)) ys.length cb)), (3, .val (.int .i64 q)), (8, .val (.bool false)), (12, .val (.bool false)), (13, .val (.nilIface)), (65, .val (.bool false)), (66, .val (.int .i64 (sumL xs))), (67, .val (.slice (some (⟨b1, off1, none⟩)) xs.length ca))]) (h1 := fun _ => []) (p1 := fun _ => []) (W1 := []) (fun _ => by kernel_rfl) (fun _ => trivial) (fun _ => ?_)
  refine JR_callp [] 27 #[.slice (some (⟨b1, off1, none⟩)) xs.length ca] (some 68) (by kernel_rfl) (fun w S hG => ?_)
  refine (rWeight (hG.at 1 rfl) hx0).mono ?_
  rintro e8 w8 hR
  refine ⟨_, _, _, hR, ?_⟩
  try simp only [List.cons_append, List.nil_append, List.append_nil]
  refine JR_run (id := 9) (rest := []) [.rd 6 [] 0 7, .rd 7 [] 0 0] [0, 1, 2, 3, 8, 12, 13, 70] (E1 := fun _ => [(0, .val (.slice (some (⟨b1, off1, none⟩)) xs.length ca)), (1, .val (.int .i64 p)), (2, .val (.slice (some (⟨b2, off2, none⟩)) ys.length cb)), (3, .val (.int .i64 q)), (8, .val (.bool false)), (12, .val (.bool false)), (13, .val (.nilIface)), (70, .val (.bool false))]) (h1 := fun _ => []) (p1 := fun _ => [(sumL xs != sumL xs) = false]) (W1 := []) (fun _ => by kernel_rfl) (fun _ => ⟨by simp, trivial⟩) (fun _ => ?_)
  refine JR_end ?_
  refine J_cond_f (by kernel_rfl) (by kernel_rfl) ?_
  refine J_skip ?_
  refine J_seq ?_
  refine JR_begin mixed [(0, true), (1, true), (2, false), (3, true)] [] (by kernel_rfl) (by kernel_rfl) ?_
  refine JR_run (id := 11) (rest := [(2, false), (3, true)]) [.rd 0 [] 0 0, .rd 1 [] 0 0] [0, 1, 2, 3, 8, 12, 13, 71, 72] (E1 := fun _ => [(0, .val (.slice (some (⟨b1, off1, none⟩)) xs.length ca)), (1, .val (.int .i64 p)), (2, .val (.slice (some (⟨b2, off2, none⟩)) ys.length cb)), (3, .val (.int .i64 q)), (8, .val (.bool false)), (12, .val (.bool false)), (13, .val (.nilIface)), (71, .val (.slice (some (⟨b1, off1, none⟩)) xs.length ca)), (72, .val (.slice (some (⟨b2, off2, none⟩)) ys.length cb))]) (h1 := fun _ => []) (p1 := fun _ => []) (W1 := []) (fun _ => by kernel_rfl) (fun _ => trivial) (fun _ => ?_)
  refine JR_callp [] 19 #[.slice (some (⟨b1, off1, none⟩)) xs.length ca, .slice (some (⟨b2, off2, none⟩)) ys.length cb] (some 73) (by kernel_rfl) (fun w S hG => ?_)
  refine (rTwoErr (hG.at 1 rfl) (hG.at 2 rfl) (by omega) (by omega)).mono ?_
  rintro e9 w9 hR
  rw [hab] at hR
  refine ⟨_, _, _, hR, ?_⟩
  try simp only [List.cons_append, List.nil_append, List.append_nil]
  refine JR_run (id := 11) (rest := []) [.rd 3 [] 0 0] [0, 1, 2, 3, 8, 12, 13, 14] (E1 := fun _ => [(0, .val (.slice (some (⟨b1, off1, none⟩)) xs.length ca)), (1, .val (.int .i64 p)), (2, .val (.slice (some (⟨b2, off2, none⟩)) ys.length cb)), (3, .val (.int .i64 q)), (8, .val (.bool false)), (12, .val (.bool false)), (13, .val (.nilIface)), (14, .val (.int .i64 0))]) (h1 := fun _ => []) (p1 := fun _ => []) (W1 := []) (fun _ => by kernel_rfl) (fun _ => trivial) (fun _ => ?_)
  refine JR_end ?_
  refine J_seq ?_
  refine J_seq ?_
  refine J_reg mixed [.rd 0 [] 0 0, .rd 1 [] 0 0, .rd 2 [] 0 0, .rd 3 [] 0 0, .rd 4 [] 0 7, .rd 5 [] 0 0, .rd 6 [] 0 0, .rd 7 [] 0 0, .rd 8 [] 0 0, .rd 9 [] 0 7, .rd 10 [] 0 0, .rd 11 [] 0 0, .rd 12 [] 0 0, .rd 13 [] 0 7, .rd 14 [] 0 0, .rd 15 [] 0 0, .rd 16 [] 0 0, .rd 17 [] 0 0, .rd 18 [] 0 0, .rd 19 [] 0 7, .rd 20 [] 0 0, .rd 21 [] 0 0] [] [0, 1, 2, 3, 8, 12, 13, 14, 95] (E1 := fun _ => [(0, .val (.slice (some (⟨b1, off1, none⟩)) xs.length ca)), (1, .val (.int .i64 p)), (2, .val (.slice (some (⟨b2, off2, none⟩)) ys.length cb)), (3, .val (.int .i64 q)), (8, .val (.bool false)), (12, .val (.bool false)), (13, .val (.nilIface)), (14, .val (.int .i64 0)), (95, .val (.bool false))]) (h1 := fun _ => []) (p1 := fun _ => [decide (p < (0 : Int)) = false, decide (p ≥ (↑xs.length : Int)) = false, decide (q < (0 : Int)) = false, decide (q ≥ (↑xs.length : Int)) = false]) (W1 := []) (by kernel_rfl) (fun _ => by kernel_rfl) (fun _ => ⟨by simp; omega, by simp; omega, by simp; omega, by simp; omega, trivial⟩) (fun _ => ?_)
  refine J_cond_f (by kernel_rfl) (by kernel_rfl) ?_
  refine J_skip ?_
  refine J_seq ?_
  refine J_seq ?_
  refine J_reg mixed [.rd 0 [] 0 0, .rd 1 [] 0 0] [] [0, 1, 2, 3, 8, 12, 13, 14, 97] (E1 := fun _ => [(0, .val (.slice (some (⟨b1, off1, none⟩)) xs.length ca)), (1, .val (.int .i64 p)), (2, .val (.slice (some (⟨b2, off2, none⟩)) ys.length cb)), (3, .val (.int .i64 q)), (8, .val (.bool false)), (12, .val (.bool false)), (13, .val (.nilIface)), (14, .val (.int .i64 0)), (97, .val (.bool false))]) (h1 := fun _ => []) (p1 := fun _ => []) (W1 := []) (by kernel_rfl) (fun _ => by kernel_rfl) (fun _ => trivial) (fun _ => ?_)
  refine J_cond_f (by kernel_rfl) (by kernel_rfl) ?_
  refine J_skip ?_
  refine J_seq ?_
  refine JR_begin mixed [(0, true), (1, false), (2, true)] [] (by kernel_rfl) (by kernel_rfl) ?_
  refine JR_run (id := 16) (rest := [(1, false), (2, true)]) [.rd 0 [] 0 0] [0, 1, 2, 3, 8, 12, 13, 105] (E1 := fun _ => [(0, .val (.slice (some (⟨b1, off1, none⟩)) xs.length ca)), (1, .val (.int .i64 p)), (2, .val (.slice (some (⟨b2, off2, none⟩)) ys.length cb)), (3, .val (.int .i64 q)), (8, .val (.bool false)), (12, .val (.bool false)), (13, .val (.nilIface)), (105, .val (.slice (some (⟨b1, off1, none⟩)) xs.length ca))]) (h1 := fun _ => []) (p1 := fun _ => []) (W1 := []) (fun _ => by kernel_rfl) (fun _ => trivial) (fun _ => ?_)
  refine JR_callp [] 27 #[.slice (some (⟨b1, off1, none⟩)) xs.length ca] (some 106) (by kernel_rfl) (fun w S hG => ?_)
  refine (rWeight (hG.at 1 rfl) hx0).mono ?_
  rintro e10 w10 hR
  refine ⟨_, _, _, hR, ?_⟩
  try simp only [List.cons_append, List.nil_append, List.append_nil]
  refine JR_run (id := 16) (rest := []) [.rd 2 [] 0 0] [0, 1, 2, 3, 8, 12, 13, 15] (E1 := fun _ => [(0, .val (.slice (some (⟨b1, off1, none⟩)) xs.length ca)), (1, .val (.int .i64 p)), (2, .val (.slice (some (⟨b2, off2, none⟩)) ys.length cb)), (3, .val (.int .i64 q)), (8, .val (.bool false)), (12, .val (.bool false)), (13, .val (.nilIface)), (15, .val (.int .i64 (sumL xs)))]) (h1 := fun _ => []) (p1 := fun _ => []) (W1 := []) (fun _ => by kernel_rfl) (fun _ => trivial) (fun _ => ?_)
  refine JR_end ?_
  refine J_seq ?_
  refine JR_begin mixed [(0, true), (1, false), (2, true)] [] (by kernel_rfl) (by kernel_rfl) ?_
  refine JR_run (id := 17) (rest := [(1, false), (2, true)]) [.rd 0 [] 0 0] [0, 1, 2, 3, 8, 12, 13, 15, 107] (E1 := fun _ => [(0, .val (.slice (some (⟨b1, off1, none⟩)) xs.length ca)), (1, .val (.int .i64 p)), (2, .val (.slice (some (⟨b2, off2, none⟩)) ys.length cb)), (3, .val (.int .i64 q)), (8, .val (.bool false)), (12, .val (.bool false)), (13, .val (.nilIface)), (15, .val (.int .i64 (sumL xs))), (107, .val (.slice (some (⟨b2, off2, none⟩)) ys.length cb))]) (h1 := fun _ => []) (p1 := fun _ => []) (W1 := []) (fun _ => by kernel_rfl) (fun _ => trivial) (fun _ => ?_)
  refine JR_callp [] 27 #[.slice (some (⟨b2, off2, none⟩)) ys.length cb] (some 108) (by kernel_rfl) (fun w S hG => ?_)
  refine (rWeight (hG.at 2 rfl) hy0).mono ?_
  rintro e11 w11 hR
  refine ⟨_, _, _, hR, ?_⟩
  try simp only [List.cons_append, List.nil_append, List.append_nil]
  refine JR_run (id := 17) (rest := []) [.rd 2 [] 0 0] [0, 1, 2, 3, 8, 12, 13, 15, 16] (E1 := fun _ => [(0, .val (.slice (some (⟨b1, off1, none⟩)) xs.length ca)), (1, .val (.int .i64 p)), (2, .val (.slice (some (⟨b2, off2, none⟩)) ys.length cb)), (3, .val (.int .i64 q)), (8, .val (.bool false)), (12, .val (.bool false)), (13, .val (.nilIface)), (15, .val (.int .i64 (sumL xs))), (16, .val (.int .i64 (sumL ys)))]) (h1 := fun _ => []) (p1 := fun _ => []) (W1 := []) (fun _ => by kernel_rfl) (fun _ => trivial) (fun _ => ?_)
  refine JR_end ?_
  refine J_seq ?_
  refine J_reg mixed [.rd 0 [] 0 0, .rd 1 [] 0 0, .rd 2 [] 0 7, .rd 3 [] 0 0, .rd 4 [] 0 0, .rd 5 [] 0 0, .rd 6 [] 0 6, .rd 7 [] 0 0, .rd 8 [] 0 0, .rd 9 [] 0 0, .rd 10 [] 0 7, .rd 11 [] 0 0, .rd 12 [] 0 0, .rd 13 [] 0 0, .rd 14 [] 0 0, .rd 15 [] 0 0, .rd 16 [] 0 6, .rd 17 [] 0 0, .rd 18 [] 0 0, .rd 19 [] 0 0, .rd 20 [] 0 6, .rd 21 [] 0 0, .rd 22 [] 0 0, .rd 23 [] 0 0, .rd 24 [] 0 0, .rd 25 [] 0 2, .rd 26 [.r 0 (some (.int .i64 x))] 0 0, .rd 27 [] 0 0, .rd 28 [] 0 0, .rd 29 [] 0 2, .rd 30 [.r 1 (some (.int .i64 y))] 0 0, .rd 31 [] 0 7, .rd 32 [] 0 0, .rd 33 [] 0 0, .rd 34 [] 0 0] [] [0, 1, 2, 3, 8, 12, 13, 15, 16, 17] (E1 := fun _ => [(0, .val (.slice (some (⟨b1, off1, none⟩)) xs.length ca)), (1, .val (.int .i64 p)), (2, .val (.slice (some (⟨b2, off2, none⟩)) ys.length cb)), (3, .val (.int .i64 q)), (8, .val (.bool false)), (12, .val (.bool false)), (13, .val (.nilIface)), (15, .val (.int .i64 (sumL xs))), (16, .val (.int .i64 (sumL ys))), (17, .val (.bool false))]) (h1 := fun _ => []) (p1 := fun _ => [decide (sumL xs < sumL ys) = false, (sumL xs == sumL ys) = true, decide (p < q) = false, (sumL xs == sumL ys) = true, (p == q) = true, (0 : Int) ≤ p, p < (↑xs.length : Int), cs1[off1 + p.toNat * (1 : Nat)]? = some (Value.int IntKind.i64 x), (0 : Int) ≤ p, p < (↑ys.length : Int), cs2[off2 + p.toNat * (1 : Nat)]? = some (Value.int IntKind.i64 y), decide (x < y) = false]) (W1 := []) (by kernel_rfl) (fun _ => by kernel_rfl) (fun _ => ⟨by simp; omega, by simp; omega, by simp; omega, by simp; omega, by simp; omega, hp0, hp1, hrd1_0, hp0, by omega, hrd2_0, by simp; omega, trivial⟩) (fun _ => ?_)
  refine J_seq ?_
  refine JR_begin mixed [(0, true), (1, false), (2, true), (3, true), (4, false), (5, true), (6, false), (7, true), (8, true), (9, true), (10, true), (11, true)] [] (by kernel_rfl) (by kernel_rfl) ?_
  refine JR_run (id := 19) (rest := [(1, false), (2, true), (3, true), (4, false), (5, true), (6, false), (7, true), (8, true), (9, true), (10, true), (11, true)]) [.rd 0 [] 0 0] [0, 1, 2, 3, 8, 12, 13, 15, 16, 17, 144] (E1 := fun _ => [(0, .val (.slice (some (⟨b1, off1, none⟩)) xs.length ca)), (1, .val (.int .i64 p)), (2, .val (.slice (some (⟨b2, off2, none⟩)) ys.length cb)), (3, .val (.int .i64 q)), (8, .val (.bool false)), (12, .val (.bool false)), (13, .val (.nilIface)), (15, .val (.int .i64 (sumL xs))), (16, .val (.int .i64 (sumL ys))), (17, .val (.bool false)), (144, .val (.slice (some (⟨b2, off2, none⟩)) ys.length cb))]) (h1 := fun _ => []) (p1 := fun _ => []) (W1 := []) (fun _ => by kernel_rfl) (fun _ => trivial) (fun _ => ?_)
  refine JR_callp [] 13 #[.slice (some (⟨b2, off2, none⟩)) ys.length cb] (some 145) (by kernel_rfl) (fun w S hG => ?_)
  refine (vown (hG.at 2 rfl) (by omega)).mono ?_
  rintro e12 w12 ⟨oa12, oc12, hR⟩
  refine ⟨_, _, _, hR, ?_⟩
  try simp only [List.cons_append, List.nil_append, List.append_nil]
  refine JR_run (id := 19) (rest := [(4, false), (5, true), (6, false), (7, true), (8, true), (9, true), (10, true), (11, true)]) [.rd 2 [] 0 0, .rd 3 [] 0 0] [0, 1, 2, 3, 8, 12, 13, 15, 16, 17, 145, 146, 147] (E1 := fun _ => [(0, .val (.slice (some (⟨b1, off1, none⟩)) xs.length ca)), (1, .val (.int .i64 p)), (2, .val (.slice (some (⟨b2, off2, none⟩)) ys.length cb)), (3, .val (.int .i64 q)), (8, .val (.bool false)), (12, .val (.bool false)), (13, .val (.nilIface)), (15, .val (.int .i64 (sumL xs))), (16, .val (.int .i64 (sumL ys))), (17, .val (.bool false)), (145, .val (.slice oa12 ys.length oc12)), (146, .val (.int .i64 q)), (147, .val (.slice (some (⟨b1, off1, none⟩)) xs.length ca))]) (h1 := fun _ => []) (p1 := fun _ => []) (W1 := []) (fun _ => by kernel_rfl) (fun _ => trivial) (fun _ => ?_)
  refine JR_callp [] 13 #[.slice (some (⟨b1, off1, none⟩)) xs.length ca] (some 148) (by kernel_rfl) (fun w S hG => ?_)
  refine (vown (hG.at 1 rfl) (by omega)).mono ?_
  rintro e13 w13 ⟨oa13, oc13, hR⟩
  refine ⟨_, _, _, hR, ?_⟩
  try simp only [List.cons_append, List.nil_append, List.append_nil]
  refine JR_run (id := 19) (rest := [(6, false), (7, true), (8, true), (9, true), (10, true), (11, true)]) [.rd 5 [] 0 0] [0, 1, 2, 3, 8, 12, 13, 15, 16, 17, 145, 146, 148, 149] (E1 := fun _ => [(0, .val (.slice (some (⟨b1, off1, none⟩)) xs.length ca)), (1, .val (.int .i64 p)), (2, .val (.slice (some (⟨b2, off2, none⟩)) ys.length cb)), (3, .val (.int .i64 q)), (8, .val (.bool false)), (12, .val (.bool false)), (13, .val (.nilIface)), (15, .val (.int .i64 (sumL xs))), (16, .val (.int .i64 (sumL ys))), (17, .val (.bool false)), (145, .val (.slice oa12 ys.length oc12)), (146, .val (.int .i64 q)), (148, .val (.slice oa13 xs.length oc13)), (149, .val (.int .i64 p))]) (h1 := fun _ => []) (p1 := fun _ => []) (W1 := []) (fun _ => by kernel_rfl) (fun _ => trivial) (fun _ => ?_)
  refine JR_callp [] 26 #[.slice oa12 ys.length oc12, .int .i64 q, .slice oa13 xs.length oc13, .int .i64 p] (some 150) (by kernel_rfl) (fun w S hG => ?_)
  refine (vahead (globs_of (hG.at 0 rfl)) (hG.at 6 rfl) (hG.at 7 rfl) (by omega) (by omega)).mono ?_
  rintro e14 w14 (⟨h4, hR⟩ | ⟨h4, hbnd, hR⟩ | ⟨h4, _, _, _, _, x2, y2, hx2, hy2, hR⟩)
  · exact absurd (two_of hy0 hx0 hxy.symm) h4
  · omega
  rw [← h2', hy] at hx2
  rw [← h2', hx] at hy2
  cases hx2
  cases hy2
  have hB : aheadB (sumL ys) (sumL xs) q p y x = false := by simp [aheadB]; omega
  rw [hB] at hR
  refine ⟨_, _, _, hR, ?_⟩
  try simp only [List.cons_append, List.nil_append, List.append_nil]
  refine JR_run (id := 19) (rest := []) [.rd 7 [] 0 0, .rd 8 [] 0 0, .rd 9 [] 0 0, .rd 10 [] 0 0, .rd 11 [] 0 0] [0, 1, 2, 3, 8, 12, 13, 15, 16, 17, 18, 19] (E1 := fun _ => [(0, .val (.slice (some (⟨b1, off1, none⟩)) xs.length ca)), (1, .val (.int .i64 p)), (2, .val (.slice (some (⟨b2, off2, none⟩)) ys.length cb)), (3, .val (.int .i64 q)), (8, .val (.bool false)), (12, .val (.bool false)), (13, .val (.nilIface)), (15, .val (.int .i64 (sumL xs))), (16, .val (.int .i64 (sumL ys))), (17, .val (.bool false)), (18, .val (.bool false)), (19, .val (.nilIface))]) (h1 := fun _ => []) (p1 := fun _ => []) (W1 := []) (fun _ => by kernel_rfl) (fun _ => trivial) (fun _ => ?_)
  refine JR_end ?_
  refine J_seq ?_
  refine J_seq ?_
  refine J_reg mixed [.rd 0 [] 0 0, .rd 1 [] 0 0, .rd 2 [] 0 0, .rd 3 [] 0 0, .rd 4 [] 0 0, .rd 5 [] 0 0, .rd 6 [] 0 0, .rd 7 [] 0 0, .rd 8 [] 0 0, .rd 9 [] 0 0, .rd 10 [] 0 0] [] [0, 1, 2, 3, 8, 12, 15, 16, 18, 163] (E1 := fun _ => [(0, .val (.slice (some (⟨b1, off1, none⟩)) xs.length ca)), (1, .val (.int .i64 p)), (2, .val (.slice (some (⟨b2, off2, none⟩)) ys.length cb)), (3, .val (.int .i64 q)), (8, .val (.bool false)), (12, .val (.bool false)), (15, .val (.int .i64 (sumL xs))), (16, .val (.int .i64 (sumL ys))), (18, .val (.bool false)), (163, .val (.bool false))]) (h1 := fun _ => []) (p1 := fun _ => []) (W1 := []) (by kernel_rfl) (fun _ => by kernel_rfl) (fun _ => trivial) (fun _ => ?_)
  refine J_cond_f (by kernel_rfl) (by kernel_rfl) ?_
  refine J_skip ?_
  refine J_seq ?_
  refine JR_begin mixed [(0, true), (1, true), (2, false), (3, true)] [] (by kernel_rfl) (by kernel_rfl) ?_
  refine JR_run (id := 22) (rest := [(2, false), (3, true)]) [.rd 0 [] 0 0, .rd 1 [] 0 0] [0, 1, 2, 3, 8, 12, 15, 16, 18, 164, 165] (E1 := fun _ => [(0, .val (.slice (some (⟨b1, off1, none⟩)) xs.length ca)), (1, .val (.int .i64 p)), (2, .val (.slice (some (⟨b2, off2, none⟩)) ys.length cb)), (3, .val (.int .i64 q)), (8, .val (.bool false)), (12, .val (.bool false)), (15, .val (.int .i64 (sumL xs))), (16, .val (.int .i64 (sumL ys))), (18, .val (.bool false)), (164, .val (.slice (some (⟨b1, off1, none⟩)) xs.length ca)), (165, .val (.slice (some (⟨b2, off2, none⟩)) ys.length cb))]) (h1 := fun _ => []) (p1 := fun _ => []) (W1 := []) (fun _ => by kernel_rfl) (fun _ => trivial) (fun _ => ?_)
  cases hin : inL xs ys
  · skip
    refine JR_callp [] 23 #[.slice (some (⟨b1, off1, none⟩)) xs.length ca, .slice (some (⟨b2, off2, none⟩)) ys.length cb] (some 166) (by kernel_rfl) (fun w S hG => ?_)
    refine (rIn (hG.at 1 rfl) (hG.at 2 rfl) (by omega) hxy).mono ?_
    rintro e15 w15 hR
    rw [hin] at hR
    refine ⟨_, _, _, hR, ?_⟩
    try simp only [List.cons_append, List.nil_append, List.append_nil]
    refine JR_run (id := 22) (rest := []) [.rd 3 [] 0 0] [0, 1, 2, 3, 8, 12, 15, 16, 18, 20] (E1 := fun _ => [(0, .val (.slice (some (⟨b1, off1, none⟩)) xs.length ca)), (1, .val (.int .i64 p)), (2, .val (.slice (some (⟨b2, off2, none⟩)) ys.length cb)), (3, .val (.int .i64 q)), (8, .val (.bool false)), (12, .val (.bool false)), (15, .val (.int .i64 (sumL xs))), (16, .val (.int .i64 (sumL ys))), (18, .val (.bool false)), (20, .val (.bool false))]) (h1 := fun _ => []) (p1 := fun _ => []) (W1 := []) (fun _ => by kernel_rfl) (fun _ => trivial) (fun _ => ?_)
    refine JR_end ?_
    refine J_seq ?_
    refine J_seq ?_
    refine J_reg mixed [.rd 0 [] 0 0, .rd 1 [] 0 0, .rd 2 [] 1 0, .rd 3 [] 1 0, .wr 4 [] 1, .rd 5 [] 1 0, .rd 6 [] 0 0, .rd 7 [] 0 0, .rd 8 [] 1 0, .rd 9 [] 1 0, .rd 10 [] 0 0] [] [0, 1, 2, 3, 8, 12, 15, 16, 18, 177] (E1 := fun _ => [(0, .val (.slice (some (⟨b1, off1, none⟩)) xs.length ca)), (1, .val (.int .i64 p)), (2, .val (.slice (some (⟨b2, off2, none⟩)) ys.length cb)), (3, .val (.int .i64 q)), (8, .val (.bool false)), (12, .val (.bool false)), (15, .val (.int .i64 (sumL xs))), (16, .val (.int .i64 (sumL ys))), (18, .val (.bool false)), (177, .val (.bool false))]) (h1 := fun _ => []) (p1 := fun _ => []) (W1 := []) (by kernel_rfl) (fun _ => by kernel_rfl) (fun _ => trivial) (fun _ => ?_)
    refine J_cond_f (by kernel_rfl) (by kernel_rfl) ?_
    refine J_skip ?_
    refine J_seq ?_
    refine J_seq ?_
    refine J_reg mixed [.rd 0 [] 0 0, .rd 1 [] 0 0, .rd 2 [] 0 6, .rd 3 [] 0 0, .rd 4 [] 0 0, .rd 5 [] 0 0, .rd 6 [] 0 6, .rd 7 [] 0 0, .rd 8 [] 0 0, .rd 9 [] 0 0, .rd 10 [] 0 0, .rd 11 [] 0 2, .rd 12 [.r 0 (some (.int .i64 x))] 0 0, .rd 13 [] 0 0, .rd 14 [] 0 0, .rd 15 [] 0 2, .rd 16 [.r 1 (some (.int .i64 y))] 0 0, .rd 17 [] 0 6, .rd 18 [] 0 0] [] [8, 12, 18, 196] (E1 := fun _ => [(8, .val (.bool false)), (12, .val (.bool false)), (18, .val (.bool false)), (196, .val (.bool true))]) (h1 := fun _ => []) (p1 := fun _ => [(sumL xs == sumL ys) = true, (p == q) = true, (0 : Int) ≤ p, p < (↑xs.length : Int), cs1[off1 + p.toNat * (1 : Nat)]? = some (Value.int IntKind.i64 x), (0 : Int) ≤ p, p < (↑ys.length : Int), cs2[off2 + p.toNat * (1 : Nat)]? = some (Value.int IntKind.i64 y), (x == y) = true]) (W1 := []) (by kernel_rfl) (fun _ => by kernel_rfl) (fun _ => ⟨by simp; omega, by simp; omega, hp0, hp1, hrd1_0, hp0, by omega, hrd2_0, by simp; omega, trivial⟩) (fun _ => ?_)
    refine J_cond_t (by kernel_rfl) (by kernel_rfl) ?_
    refine J_seq ?_
    refine J_reg mixed [.rd 0 [] 0 0, .rd 1 [] 0 0, .rd 2 [] 0 0, .rd 3 [] 0 0, .rd 4 [] 0 0, .rd 5 [] 0 0, .rd 6 [] 0 0] [] [8, 12, 18] (E1 := fun _ => [(8, .val (.bool true)), (12, .val (.bool false)), (18, .val (.bool false))]) (h1 := fun _ => []) (p1 := fun _ => []) (W1 := []) (by kernel_rfl) (fun _ => by kernel_rfl) (fun _ => trivial) (fun _ => ?_)
    refine J_return [[]] (.bool true) (by kernel_rfl) (fun a w s => ?_)
    exact s.ret (by simp) [] [] rfl rfl
  · skip
    refine JR_callp [] 23 #[.slice (some (⟨b1, off1, none⟩)) xs.length ca, .slice (some (⟨b2, off2, none⟩)) ys.length cb] (some 166) (by kernel_rfl) (fun w S hG => ?_)
    refine (rIn (hG.at 1 rfl) (hG.at 2 rfl) (by omega) hxy).mono ?_
    rintro e16 w16 hR
    rw [hin] at hR
    refine ⟨_, _, _, hR, ?_⟩
    try simp only [List.cons_append, List.nil_append, List.append_nil]
    refine JR_run (id := 22) (rest := []) [.rd 3 [] 0 0] [0, 1, 2, 3, 8, 12, 15, 16, 18, 20] (E1 := fun _ => [(0, .val (.slice (some (⟨b1, off1, none⟩)) xs.length ca)), (1, .val (.int .i64 p)), (2, .val (.slice (some (⟨b2, off2, none⟩)) ys.length cb)), (3, .val (.int .i64 q)), (8, .val (.bool false)), (12, .val (.bool false)), (15, .val (.int .i64 (sumL xs))), (16, .val (.int .i64 (sumL ys))), (18, .val (.bool false)), (20, .val (.bool true))]) (h1 := fun _ => []) (p1 := fun _ => []) (W1 := []) (fun _ => by kernel_rfl) (fun _ => trivial) (fun _ => ?_)
    refine JR_end ?_
    refine J_seq ?_
    refine J_seq ?_
    refine JR_begin mixed [(0, true), (1, true), (2, true), (3, true), (4, false), (5, true), (6, true), (7, true), (8, true), (9, true), (10, true)] [] (by kernel_rfl) (by kernel_rfl) ?_
    refine JR_run (id := 23) (rest := [(4, false), (5, true), (6, true), (7, true), (8, true), (9, true), (10, true)]) [.rd 0 [] 0 0, .rd 1 [] 0 0, .rd 2 [] 0 0, .rd 3 [] 0 0] [0, 1, 2, 3, 8, 12, 15, 16, 18, 168, 169, 170] (E1 := fun _ => [(0, .val (.slice (some (⟨b1, off1, none⟩)) xs.length ca)), (1, .val (.int .i64 p)), (2, .val (.slice (some (⟨b2, off2, none⟩)) ys.length cb)), (3, .val (.int .i64 q)), (8, .val (.bool false)), (12, .val (.bool false)), (15, .val (.int .i64 (sumL xs))), (16, .val (.int .i64 (sumL ys))), (18, .val (.bool false)), (168, .val (.bool true)), (169, .val (.slice (some (⟨b1, off1, none⟩)) xs.length ca)), (170, .val (.slice (some (⟨b2, off2, none⟩)) ys.length cb))]) (h1 := fun _ => []) (p1 := fun _ => []) (W1 := []) (fun _ => by kernel_rfl) (fun _ => trivial) (fun _ => ?_)
    have heq : xs = ys := by rcases (hsum hin).2 with h | h; omega; exact h
    refine JR_callp [] 16 #[.slice (some (⟨b1, off1, none⟩)) xs.length ca, .slice (some (⟨b2, off2, none⟩)) ys.length cb] (some 171) (by kernel_rfl) (fun w S hG => ?_)
    refine (sameInts (hG.at 1 rfl) (hG.at 2 rfl) (by omega)).mono ?_
    rintro e17 w17 hR
    rw [decide_eq_true heq] at hR
    refine ⟨_, _, _, hR, ?_⟩
    try simp only [List.cons_append, List.nil_append, List.append_nil]
    refine JR_run (id := 23) (rest := []) [.rd 5 [] 0 0, .rd 6 [] 0 0, .rd 7 [] 0 0, .rd 8 [] 1 0, .rd 9 [] 1 0, .rd 10 [] 0 0] [0, 1, 2, 3, 8, 12, 15, 16, 18, 177] (E1 := fun _ => [(0, .val (.slice (some (⟨b1, off1, none⟩)) xs.length ca)), (1, .val (.int .i64 p)), (2, .val (.slice (some (⟨b2, off2, none⟩)) ys.length cb)), (3, .val (.int .i64 q)), (8, .val (.bool false)), (12, .val (.bool false)), (15, .val (.int .i64 (sumL xs))), (16, .val (.int .i64 (sumL ys))), (18, .val (.bool false)), (177, .val (.bool false))]) (h1 := fun _ => []) (p1 := fun _ => []) (W1 := []) (fun _ => by kernel_rfl) (fun _ => trivial) (fun _ => ?_)
    refine JR_end ?_
    refine J_cond_f (by kernel_rfl) (by kernel_rfl) ?_
    refine J_skip ?_
    refine J_seq ?_
    refine J_seq ?_
    refine J_reg mixed [.rd 0 [] 0 0, .rd 1 [] 0 0, .rd 2 [] 0 6, .rd 3 [] 0 0, .rd 4 [] 0 0, .rd 5 [] 0 0, .rd 6 [] 0 6, .rd 7 [] 0 0, .rd 8 [] 0 0, .rd 9 [] 0 0, .rd 10 [] 0 0, .rd 11 [] 0 2, .rd 12 [.r 0 (some (.int .i64 x))] 0 0, .rd 13 [] 0 0, .rd 14 [] 0 0, .rd 15 [] 0 2, .rd 16 [.r 1 (some (.int .i64 y))] 0 0, .rd 17 [] 0 6, .rd 18 [] 0 0] [] [8, 12, 18, 196] (E1 := fun _ => [(8, .val (.bool false)), (12, .val (.bool false)), (18, .val (.bool false)), (196, .val (.bool true))]) (h1 := fun _ => []) (p1 := fun _ => [(sumL xs == sumL ys) = true, (p == q) = true, (0 : Int) ≤ p, p < (↑xs.length : Int), cs1[off1 + p.toNat * (1 : Nat)]? = some (Value.int IntKind.i64 x), (0 : Int) ≤ p, p < (↑ys.length : Int), cs2[off2 + p.toNat * (1 : Nat)]? = some (Value.int IntKind.i64 y), (x == y) = true]) (W1 := []) (by kernel_rfl) (fun _ => by kernel_rfl) (fun _ => ⟨by simp; omega, by simp; omega, hp0, hp1, hrd1_0, hp0, by omega, hrd2_0, by simp; omega, trivial⟩) (fun _ => ?_)
    refine J_cond_t (by kernel_rfl) (by kernel_rfl) ?_
    refine J_seq ?_
    refine J_reg mixed [.rd 0 [] 0 0, .rd 1 [] 0 0, .rd 2 [] 0 0, .rd 3 [] 0 0, .rd 4 [] 0 0, .rd 5 [] 0 0, .rd 6 [] 0 0] [] [8, 12, 18] (E1 := fun _ => [(8, .val (.bool true)), (12, .val (.bool false)), (18, .val (.bool false))]) (h1 := fun _ => []) (p1 := fun _ => []) (W1 := []) (by kernel_rfl) (fun _ => by kernel_rfl) (fun _ => trivial) (fun _ => ?_)
    refine J_return [[]] (.bool true) (by kernel_rfl) (fun a w s => ?_)
    exact s.ret (by simp) [] [] rfl rfl
end Go.Proofs.YtibkfmobofikmaaDoor
