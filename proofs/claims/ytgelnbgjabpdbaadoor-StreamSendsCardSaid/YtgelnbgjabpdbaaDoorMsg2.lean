/- The same commits, messages; a commit that is too much; a message turned into the program's. -/
import Derived.Test.YtgelnbgjabpdbaaDoorMsg
import Derived.Test.YtgelnbgjabpdbaaDoorEqDot
namespace Go.Proofs.YtgelnbgjabpdbaaDoor
open Go Go.Sx

theorem sameDots_eq {w0 : World} {S : Nat → Prop} {a b : Option Addr} {n m c d : Nat} {l : List DotT} (ha : Rep w0 S (.slice a n c) (.sl 3 (l.map eDot))) (hb : Rep w0 S (.slice b m d) (.sl 3 (l.map eDot))) (hl : l.length ≤ 1000000) :
    Calls Tryd.prog 71 #[.slice a n c, .slice b m d] w0 fun e w' => Ret [] w0 S w' e (.bool true) [] [] := by
  have e1 := ha.slen
  have e2 := hb.slen
  rw [List.length_map] at e1 e2
  subst e1 e2
  refine ep71 (args := [.slice a l.length c, .slice b l.length d]) (G := [(_, .sl 3 (l.map eDot)), (_, .sl 3 (l.map eDot))]) (by kernel_rfl) (.cons ha (.cons hb (.nil _ _))) ?_
  refine J_seq ?_
  refine J_reg mixed [.rd 0 [] 0 0] [] [0, 1, 4] (E1 := fun _ => [(0, .val (.slice a l.length c)), (1, .val (.slice b l.length d)), (4, .val (.bool false))]) (h1 := fun _ => []) (p1 := fun _ => []) (W1 := []) (by kernel_rfl) (fun _ => by kernel_rfl) (fun _ => trivial) (fun _ => ?_)
  refine J_seq ?_
  refine J_seq ?_
  refine J_reg mixed [.rd 0 [] 0 0, .rd 1 [] 0 0, .rd 2 [] 0 0, .rd 3 [] 0 0, .rd 4 [] 0 7] [] [0, 1, 4, 10] (E1 := fun _ => [(0, .val (.slice a l.length c)), (1, .val (.slice b l.length d)), (4, .val (.bool false)), (10, .val (.bool false))]) (h1 := fun _ => []) (p1 := fun _ => [((↑l.length : Int) != (↑l.length : Int)) = false]) (W1 := []) (by kernel_rfl) (fun _ => by kernel_rfl) (fun _ => ⟨by simp, trivial⟩) (fun _ => ?_)
  refine J_cond_f (by kernel_rfl) (by kernel_rfl) ?_
  refine J_skip ?_
  refine J_seq ?_
  refine J_seq ?_
  refine J_reg mixed [.rd 0 [] 0 0] [] [0, 1, 4, 5] (E1 := fun _ => [(0, .val (.slice a l.length c)), (1, .val (.slice b l.length d)), (4, .val (.bool false)), (5, .val (.int .i64 0))]) (h1 := fun _ => []) (p1 := fun _ => []) (W1 := []) (by kernel_rfl) (fun _ => by kernel_rfl) (fun _ => trivial) (fun _ => ?_)
  refine J_block ?_
  refine J_loopx (fun i : Int => [(0, .val (.slice a l.length c)), (1, .val (.slice b l.length d)), (4, .val (.bool false)), (5, .val (.int .i64 i))]) (fun i : Int => []) (fun i : Int => []) (fun i : Int => [(.slice a l.length c, (D.sl 3 (List.map eDot l))), (.slice b l.length d, (D.sl 3 (List.map eDot l)))]) (fun i : Int => (l.length - i).toNat) (fun i : Int => (0 ≤ i ∧ i ≤ l.length)) 0 [0, 1, 4, 5] [] [] [0, 1] ?_ (by kernel_rfl) rfl rfl rfl ?_
  · exact ⟨by omega, by omega⟩
  rintro i ⟨hi0, hi⟩
  refine J_seq ?_
  refine J_seq ?_
  refine J_reg mixed [.rd 0 [] 0 0, .rd 1 [] 0 0, .rd 2 [] 0 0, .rd 3 [] 0 0] [] [0, 1, 4, 5, 14] (E1 := fun _ => [(0, .val (.slice a l.length c)), (1, .val (.slice b l.length d)), (4, .val (.bool false)), (5, .val (.int .i64 i)), (14, .val (.bool (decide (i < (↑l.length : Int)))))]) (h1 := fun _ => []) (p1 := fun _ => []) (W1 := []) (by kernel_rfl) (fun _ => by kernel_rfl) (fun _ => trivial) (fun _ => ?_)
  refine J_cond (t := decide (i < (↑l.length : Int))) (by kernel_rfl) (by kernel_rfl) (fun hlt => ?_) (fun hlt => ?_)
  · have hlt2 : i < l.length := by simpa using hlt
    obtain ⟨x, hx⟩ : ∃ x, l[i.toNat]? = some x := ⟨_, List.getElem?_eq_getElem (by omega)⟩
    refine J_read0 0 rfl i.toNat (map_at hx) (by kernel_rfl) (fun b1 off1 cs1 ty1 fz1 ha1 hrd1 => ?_)
    cases ha1
    have hrd1_0 := rd0 (hrd1 0 _ rfl)
    have hrd1_1 := hrd1 1 _ rfl
    have hrd1_2 := hrd1 2 _ rfl
    refine J_read0 1 rfl i.toNat (map_at hx) (by kernel_rfl) (fun b2 off2 cs2 ty2 fz2 ha2 hrd2 => ?_)
    cases ha2
    have hrd2_0 := rd0 (hrd2 0 _ rfl)
    have hrd2_1 := hrd2 1 _ rfl
    have hrd2_2 := hrd2 2 _ rfl
    try simp only [List.cons_append, List.nil_append, List.append_nil]
    refine J_skip ?_
    refine J_seq ?_
    refine J_block ?_
    refine J_seq ?_
    refine J_reg mixed [.rd 0 [] 0 0, .rd 1 [] 0 0, .rd 2 [] 0 2, .rd 3 [.r 0 (some (.int .i64 x.place)), .r 0 (some (.int .i64 x.time)), .r 0 (some (.int .i64 x.no))] 0 0, .rd 4 [] 0 0, .rd 5 [] 0 0, .rd 6 [] 0 2, .rd 7 [.r 1 (some (.int .i64 x.place)), .r 1 (some (.int .i64 x.time)), .r 1 (some (.int .i64 x.no))] 0 0, .rd 8 [.r 0 (some (.bool (!decide (x.place = x.place ∧ x.time = x.time ∧ x.no = x.no))))] 0 10] [] [0, 1, 4, 5, 25] (E1 := fun _ => [(0, .val (.slice (some (⟨b1, off1, none⟩)) l.length c)), (1, .val (.slice (some (⟨b2, off2, none⟩)) l.length d)), (4, .val (.bool false)), (5, .val (.int .i64 i)), (25, .val (.bool (!decide (x.place = x.place ∧ x.time = x.time ∧ x.no = x.no))))]) (h1 := fun _ => []) (p1 := fun _ => [(0 : Int) ≤ i, i < (↑l.length : Int), cs1[off1 + i.toNat * (3 : Nat)]? = some (Value.int IntKind.i64 x.place), cs1[off1 + i.toNat * (3 : Nat) + (1 : Nat)]? = some (Value.int IntKind.i64 x.time), cs1[off1 + i.toNat * (3 : Nat) + (2 : Nat)]? = some (Value.int IntKind.i64 x.no), (0 : Int) ≤ i, i < (↑l.length : Int), cs2[off2 + i.toNat * (3 : Nat)]? = some (Value.int IntKind.i64 x.place), cs2[off2 + i.toNat * (3 : Nat) + (1 : Nat)]? = some (Value.int IntKind.i64 x.time), cs2[off2 + i.toNat * (3 : Nat) + (2 : Nat)]? = some (Value.int IntKind.i64 x.no), eqRun Tryd.prog .neq 124 (Operand.tmp 20) (Operand.tmp 24) (.agg #[.int .i64 x.place, .int .i64 x.time, .int .i64 x.no]) (.agg #[.int .i64 x.place, .int .i64 x.time, .int .i64 x.no]) (.bool (!decide (x.place = x.place ∧ x.time = x.time ∧ x.no = x.no)))]) (W1 := []) (by kernel_rfl) (fun _ => by kernel_rfl) (fun _ => ⟨hi0, hlt2, hrd1_0, hrd1_1, hrd1_2, hi0, hlt2, hrd2_0, hrd2_1, hrd2_2, eqRun_neq_124, trivial⟩) (fun _ => ?_)
    refine J_condF (!decide (x.place = x.place ∧ x.time = x.time ∧ x.no = x.no)) (by kernel_rfl) (by kernel_rfl) (by simp) ?_
    refine J_skip ?_
    refine J_eb ?_
    refine J_reg mixed [.rd 0 [] 0 0, .rd 1 [] 0 1, .rd 2 [] 0 0] [] [0, 1, 4, 5] (E1 := fun _ => [(0, .val (.slice (some (⟨b1, off1, none⟩)) l.length c)), (1, .val (.slice (some (⟨b2, off2, none⟩)) l.length d)), (4, .val (.bool false)), (5, .val (.int .i64 (i + 1)))]) (h1 := fun _ => []) (p1 := fun _ => [IntKind.i64.wrap (i + (1 : Int)) = i + (1 : Int)]) (W1 := []) (by kernel_rfl) (fun _ => by kernel_rfl) (fun _ => ⟨wrap_i64 (by omega) (by omega), trivial⟩) (fun _ => ?_)
    refine J_backx (i + 1) [0, 1, 4, 5] [] [] [0, 1] ?_ ?_ (by kernel_rfl) rfl rfl rfl
    · exact ⟨by omega, by omega⟩
    · omega
  · refine J_exit rfl ?_
    refine J_seq ?_
    refine J_reg mixed [.rd 0 [] 0 0] [] [4] (E1 := fun _ => [(4, .val (.bool true))]) (h1 := fun _ => []) (p1 := fun _ => []) (W1 := []) (by kernel_rfl) (fun _ => by kernel_rfl) (fun _ => trivial) (fun _ => ?_)
    refine J_return [[]] (.bool true) (by kernel_rfl) (fun a w s => ?_)
    exact s.ret (by simp) [] [] rfl rfl

theorem sameOp_eq {w0 : World} {S : Nat → Prop} {a b : Option Addr} {n m c d : Nat} {o : OpT} (ha : Rep w0 S (.slice a n c) (.sl 3 (o.dots.map eDot))) (hb : Rep w0 S (.slice b m d) (.sl 3 (o.dots.map eDot))) (hl : o.dots.length ≤ 1000000) :
    Calls Tryd.prog 53 #[.agg #[.int .i64 o.no, .string o.key, .int .i64 o.kind, .string o.text, .int .i64 o.n, .bool o.remove, .slice a n c], .agg #[.int .i64 o.no, .string o.key, .int .i64 o.kind, .string o.text, .int .i64 o.n, .bool o.remove, .slice b m d]] w0 fun e w' => Ret [] w0 S w' e (.bool true) [] [] := by
  refine ep53 (args := [.agg #[.int .i64 o.no, .string o.key, .int .i64 o.kind, .string o.text, .int .i64 o.n, .bool o.remove, .slice a n c], .agg #[.int .i64 o.no, .string o.key, .int .i64 o.kind, .string o.text, .int .i64 o.n, .bool o.remove, .slice b m d]]) (G := [(_, .sl 3 (o.dots.map eDot)), (_, .sl 3 (o.dots.map eDot))]) (by kernel_rfl) (.cons ha (.cons hb (.nil _ _))) ?_
  refine J_seq ?_
  refine J_reg mixed [.wr 0 [] 0, .wr 1 [] 0, .rd 2 [] 0 0] [] [2, 3, 4] (E1 := fun nu1 => [(2, .val (.pointer (some (⟨nu1 0, 0, none⟩)))), (3, .val (.pointer (some (⟨nu1 1, 0, none⟩)))), (4, .val (.bool false))]) (h1 := fun nu1 => [(nu1 0, .cells #[.int .i64 o.no, .string o.key, .int .i64 o.kind, .string o.text, .int .i64 o.n, .bool o.remove, .slice a n c] 99 (0, 0)), (nu1 1, .cells #[.int .i64 o.no, .string o.key, .int .i64 o.kind, .string o.text, .int .i64 o.n, .bool o.remove, .slice b m d] 99 (0, 0))]) (p1 := fun nu1 => []) (W1 := []) (by kernel_rfl) (fun _ => by kernel_rfl) (fun _ => trivial) (fun nu1 => ?_)
  refine J_seq ?_
  refine J_seq ?_
  refine J_reg mixed [.rd 0 [] 0 0, .rd 1 [.o 0 none] 0 0, .rd 2 [] 0 0, .rd 3 [.o 1 none] 0 0, .rd 4 [] 0 7, .rd 5 [] 0 0, .rd 6 [] 0 0, .rd 7 [.o 0 none] 0 0, .rd 8 [] 0 0, .rd 9 [.o 1 none] 0 0, .rd 10 [] 0 7, .rd 11 [] 0 0, .rd 12 [] 0 0, .rd 13 [] 0 0, .rd 14 [.o 0 none] 0 0, .rd 15 [] 0 0, .rd 16 [.o 1 none] 0 0, .rd 17 [] 0 7, .rd 18 [] 0 0, .rd 19 [] 0 0, .rd 20 [] 0 0, .rd 21 [.o 0 none] 0 0, .rd 22 [] 0 0, .rd 23 [.o 1 none] 0 0, .rd 24 [] 0 7, .rd 25 [] 0 0, .rd 26 [] 0 0, .rd 27 [] 0 0, .rd 28 [.o 0 none] 0 0, .rd 29 [] 0 0, .rd 30 [.o 1 none] 0 0, .rd 31 [] 0 7, .rd 32 [] 0 0, .rd 33 [] 0 0, .rd 34 [] 0 0, .rd 35 [.o 0 none] 0 0, .rd 36 [] 0 0, .rd 37 [.o 1 none] 0 0, .rd 38 [] 0 7, .rd 39 [] 0 0] [] [2, 3, 4, 44] (E1 := fun _ => [(2, .val (.pointer (some (⟨nu1 0, 0, none⟩)))), (3, .val (.pointer (some (⟨nu1 1, 0, none⟩)))), (4, .val (.bool false)), (44, .val (.bool false))]) (h1 := fun _ => [(nu1 0, .cells #[.int .i64 o.no, .string o.key, .int .i64 o.kind, .string o.text, .int .i64 o.n, .bool o.remove, .slice a n c] 99 (0, 0)), (nu1 1, .cells #[.int .i64 o.no, .string o.key, .int .i64 o.kind, .string o.text, .int .i64 o.n, .bool o.remove, .slice b m d] 99 (0, 0))]) (p1 := fun _ => [(o.no != o.no) = false, (!o.key.toList == o.key.toList) = false, (o.kind != o.kind) = false, (!o.text.toList == o.text.toList) = false, (o.n != o.n) = false, (!o.remove == o.remove) = false]) (W1 := []) (by kernel_rfl) (fun _ => by kernel_rfl) (fun _ => ⟨by simp, by simp, by simp, by simp, by simp, by simp, trivial⟩) (fun _ => ?_)
  refine J_cond_f (by kernel_rfl) (by kernel_rfl) ?_
  refine J_skip ?_
  refine J_seq ?_
  refine JR_begin mixed [(0, true), (1, true), (2, true), (3, true), (4, false), (5, true)] [] (by kernel_rfl) (by kernel_rfl) ?_
  refine JR_run (id := 3) (rest := [(4, false), (5, true)]) [.rd 0 [] 0 0, .rd 1 [.o 0 none] 0 0, .rd 2 [] 0 0, .rd 3 [.o 1 none] 0 0] [4, 46, 48] (E1 := fun _ => [(4, .val (.bool false)), (46, .val (.slice a n c)), (48, .val (.slice b m d))]) (h1 := fun _ => [(nu1 0, .cells #[.int .i64 o.no, .string o.key, .int .i64 o.kind, .string o.text, .int .i64 o.n, .bool o.remove, .slice a n c] 99 (0, 0)), (nu1 1, .cells #[.int .i64 o.no, .string o.key, .int .i64 o.kind, .string o.text, .int .i64 o.n, .bool o.remove, .slice b m d] 99 (0, 0))]) (p1 := fun _ => []) (W1 := []) (fun _ => by kernel_rfl) (fun _ => trivial) (fun _ => ?_)
  refine JR_callp [] 71 #[.slice a n c, .slice b m d] (some 49) (by kernel_rfl) (fun w S hG => ?_)
  refine (sameDots_eq (hG.at 0 rfl) (hG.at 1 rfl) hl).mono ?_
  rintro e1 w1 hR
  refine ⟨_, _, _, hR, ?_⟩
  try simp only [List.cons_append, List.nil_append, List.append_nil]
  refine JR_run (id := 3) (rest := []) [.rd 5 [] 0 0] [4] (E1 := fun _ => [(4, .val (.bool true))]) (h1 := fun _ => [(nu1 0, .cells #[.int .i64 o.no, .string o.key, .int .i64 o.kind, .string o.text, .int .i64 o.n, .bool o.remove, .slice a n c] 99 (0, 0)), (nu1 1, .cells #[.int .i64 o.no, .string o.key, .int .i64 o.kind, .string o.text, .int .i64 o.n, .bool o.remove, .slice b m d] 99 (0, 0))]) (p1 := fun _ => []) (W1 := []) (fun _ => by kernel_rfl) (fun _ => trivial) (fun _ => ?_)
  refine JR_end ?_
  refine J_return [[]] (.bool true) (by kernel_rfl) (fun a w s => ?_)
  exact s.ret (by simp) [] [] rfl rfl

theorem sameCommit_eq {w0 : World} {S : Nat → Prop} {a1 a2 u1 u2 : Option Addr} {n1 c1 n2 c2 m1 d1 m2 d2 : Nat} {c : ComT} (h1 : Rep w0 S (.slice a1 n1 c1) (dInts c.when)) (h2 : Rep w0 S (.slice a2 n2 c2) (.sl 7 (c.ops.map eOp))) (h3 : Rep w0 S (.slice u1 m1 d1) (dInts c.when)) (h4 : Rep w0 S (.slice u2 m2 d2) (.sl 7 (c.ops.map eOp))) (hl1 : c.when.length ≤ 1000000) (hl2 : c.ops.length ≤ 1000000) (hl3 : ∀ o ∈ c.ops, o.dots.length ≤ 1000000) :
    Calls Tryd.prog 42 #[.agg #[.slice a1 n1 c1, .int .i64 c.place, .slice a2 n2 c2], .agg #[.slice u1 m1 d1, .int .i64 c.place, .slice u2 m2 d2]] w0 fun e w' => Ret [] w0 S w' e (.bool true) [] [] := by
  obtain rfl := rep_ints_len h1
  obtain rfl := rep_ints_len h3
  have e2 := h2.slen
  have e4 := h4.slen
  rw [List.length_map] at e2 e4
  subst e2 e4
  refine ep42 (args := [.agg #[.slice a1 c.when.length c1, .int .i64 c.place, .slice a2 c.ops.length c2], .agg #[.slice u1 c.when.length d1, .int .i64 c.place, .slice u2 c.ops.length d2]]) (G := [(_, dInts c.when), (_, .sl 7 (c.ops.map eOp)), (_, dInts c.when), (_, .sl 7 (c.ops.map eOp))]) (by kernel_rfl) (.cons h1 (.cons h2 (.cons h3 (.cons h4 (.nil _ _))))) ?_
  refine J_seq ?_
  refine J_reg mixed [.wr 0 [] 0, .wr 1 [] 0, .rd 2 [] 0 0] [] [2, 3, 4] (E1 := fun nu1 => [(2, .val (.pointer (some (⟨nu1 0, 0, none⟩)))), (3, .val (.pointer (some (⟨nu1 1, 0, none⟩)))), (4, .val (.bool false))]) (h1 := fun nu1 => [(nu1 0, .cells #[.slice a1 c.when.length c1, .int .i64 c.place, .slice a2 c.ops.length c2] 35 (0, 0)), (nu1 1, .cells #[.slice u1 c.when.length d1, .int .i64 c.place, .slice u2 c.ops.length d2] 35 (0, 0))]) (p1 := fun nu1 => []) (W1 := []) (by kernel_rfl) (fun _ => by kernel_rfl) (fun _ => trivial) (fun nu1 => ?_)
  refine J_seq ?_
  refine J_seq ?_
  refine JR_begin mixed [(0, true), (1, true), (2, true), (3, true), (4, false), (5, true), (6, true), (7, true), (8, true), (9, true), (10, true), (11, true), (12, true), (13, true), (14, true), (15, true), (16, true), (17, true), (18, true), (19, true), (20, true), (21, true)] [] (by kernel_rfl) (by kernel_rfl) ?_
  refine JR_run (id := 1) (rest := [(4, false), (5, true), (6, true), (7, true), (8, true), (9, true), (10, true), (11, true), (12, true), (13, true), (14, true), (15, true), (16, true), (17, true), (18, true), (19, true), (20, true), (21, true)]) [.rd 0 [] 0 0, .rd 1 [.o 0 none] 0 0, .rd 2 [] 0 0, .rd 3 [.o 1 none] 0 0] [2, 3, 4, 8, 10] (E1 := fun _ => [(2, .val (.pointer (some (⟨nu1 0, 0, none⟩)))), (3, .val (.pointer (some (⟨nu1 1, 0, none⟩)))), (4, .val (.bool false)), (8, .val (.slice a1 c.when.length c1)), (10, .val (.slice u1 c.when.length d1))]) (h1 := fun _ => [(nu1 0, .cells #[.slice a1 c.when.length c1, .int .i64 c.place, .slice a2 c.ops.length c2] 35 (0, 0)), (nu1 1, .cells #[.slice u1 c.when.length d1, .int .i64 c.place, .slice u2 c.ops.length d2] 35 (0, 0))]) (p1 := fun _ => []) (W1 := []) (fun _ => by kernel_rfl) (fun _ => trivial) (fun _ => ?_)
  refine JR_callp [] 52 #[.slice a1 c.when.length c1, .slice u1 c.when.length d1] (some 11) (by kernel_rfl) (fun w S hG => ?_)
  refine (sameInts (hG.at 0 rfl) (hG.at 2 rfl) hl1).mono ?_
  rintro e1 w1 hR
  rw [decide_eq_true rfl] at hR
  refine ⟨_, _, _, hR, ?_⟩
  try simp only [List.cons_append, List.nil_append, List.append_nil]
  refine JR_run (id := 1) (rest := []) [.rd 5 [] 0 0, .rd 6 [] 0 0, .rd 7 [] 0 0, .rd 8 [.o 0 none] 0 0, .rd 9 [] 0 0, .rd 10 [.o 1 none] 0 0, .rd 11 [] 0 7, .rd 12 [] 0 0, .rd 13 [] 0 0, .rd 14 [] 0 0, .rd 15 [.o 0 none] 0 0, .rd 16 [] 0 0, .rd 17 [] 0 0, .rd 18 [.o 1 none] 0 0, .rd 19 [] 0 0, .rd 20 [] 0 7, .rd 21 [] 0 0] [2, 3, 4, 28] (E1 := fun _ => [(2, .val (.pointer (some (⟨nu1 0, 0, none⟩)))), (3, .val (.pointer (some (⟨nu1 1, 0, none⟩)))), (4, .val (.bool false)), (28, .val (.bool false))]) (h1 := fun _ => [(nu1 0, .cells #[.slice a1 c.when.length c1, .int .i64 c.place, .slice a2 c.ops.length c2] 35 (0, 0)), (nu1 1, .cells #[.slice u1 c.when.length d1, .int .i64 c.place, .slice u2 c.ops.length d2] 35 (0, 0))]) (p1 := fun _ => [(c.place != c.place) = false, ((↑c.ops.length : Int) != (↑c.ops.length : Int)) = false]) (W1 := []) (fun _ => by kernel_rfl) (fun _ => ⟨by simp, by simp, trivial⟩) (fun _ => ?_)
  refine JR_end ?_
  refine J_cond_f (by kernel_rfl) (by kernel_rfl) ?_
  refine J_skip ?_
  refine J_seq ?_
  refine J_seq ?_
  refine J_reg mixed [.rd 0 [] 0 0] [] [2, 3, 4, 5] (E1 := fun _ => [(2, .val (.pointer (some (⟨nu1 0, 0, none⟩)))), (3, .val (.pointer (some (⟨nu1 1, 0, none⟩)))), (4, .val (.bool false)), (5, .val (.int .i64 0))]) (h1 := fun _ => [(nu1 0, .cells #[.slice a1 c.when.length c1, .int .i64 c.place, .slice a2 c.ops.length c2] 35 (0, 0)), (nu1 1, .cells #[.slice u1 c.when.length d1, .int .i64 c.place, .slice u2 c.ops.length d2] 35 (0, 0))]) (p1 := fun _ => []) (W1 := []) (by kernel_rfl) (fun _ => by kernel_rfl) (fun _ => trivial) (fun _ => ?_)
  refine J_block ?_
  refine J_loopx (fun i : Int => [(2, .val (.pointer (some (⟨nu1 0, 0, none⟩)))), (3, .val (.pointer (some (⟨nu1 1, 0, none⟩)))), (4, .val (.bool false)), (5, .val (.int .i64 i))]) (fun i : Int => [(nu1 0, .cells #[.slice a1 c.when.length c1, .int .i64 c.place, .slice a2 c.ops.length c2] 35 (0, 0)), (nu1 1, .cells #[.slice u1 c.when.length d1, .int .i64 c.place, .slice u2 c.ops.length d2] 35 (0, 0))]) (fun i : Int => []) (fun i : Int => [(.slice a1 c.when.length c1, (dInts c.when)), (.slice a2 c.ops.length c2, (D.sl 7 (List.map eOp c.ops))), (.slice u1 c.when.length d1, (dInts c.when)), (.slice u2 c.ops.length d2, (D.sl 7 (List.map eOp c.ops)))]) (fun i : Int => (c.ops.length - i).toNat) (fun i : Int => (0 ≤ i ∧ i ≤ c.ops.length)) 0 [2, 3, 4, 5] [0, 1] [] [0, 1, 2, 3] ?_ (by kernel_rfl) rfl rfl rfl ?_
  · exact ⟨by omega, by omega⟩
  rintro i ⟨hi0, hi⟩
  refine J_seq ?_
  refine J_seq ?_
  refine J_reg mixed [.rd 0 [] 0 0, .rd 1 [] 0 0, .rd 2 [.o 0 none] 0 0, .rd 3 [] 0 0, .rd 4 [] 0 0] [] [2, 3, 4, 5, 33] (E1 := fun _ => [(2, .val (.pointer (some (⟨nu1 0, 0, none⟩)))), (3, .val (.pointer (some (⟨nu1 1, 0, none⟩)))), (4, .val (.bool false)), (5, .val (.int .i64 i)), (33, .val (.bool (decide (i < (↑c.ops.length : Int)))))]) (h1 := fun _ => [(nu1 0, .cells #[.slice a1 c.when.length c1, .int .i64 c.place, .slice a2 c.ops.length c2] 35 (0, 0)), (nu1 1, .cells #[.slice u1 c.when.length d1, .int .i64 c.place, .slice u2 c.ops.length d2] 35 (0, 0))]) (p1 := fun _ => []) (W1 := []) (by kernel_rfl) (fun _ => by kernel_rfl) (fun _ => trivial) (fun _ => ?_)
  refine J_cond (t := decide (i < (↑c.ops.length : Int))) (by kernel_rfl) (by kernel_rfl) (fun hlt => ?_) (fun hlt => ?_)
  · have hlt2 : i < c.ops.length := by simpa using hlt
    obtain ⟨o, ho⟩ : ∃ o, c.ops[i.toNat]? = some o := ⟨_, List.getElem?_eq_getElem (by omega)⟩
    refine J_read1 1 rfl i.toNat (map_at ho) (by kernel_rfl) (fun b1 off1 cs1 ty1 fz1 a1_0 c1_0 ha1 hrd1 => ?_)
    cases ha1
    have hrd1_0 := rd0 (hrd1 0 _ rfl)
    have hrd1_1 := hrd1 1 _ rfl
    have hrd1_2 := hrd1 2 _ rfl
    have hrd1_3 := hrd1 3 _ rfl
    have hrd1_4 := hrd1 4 _ rfl
    have hrd1_5 := hrd1 5 _ rfl
    have hrd1_6 := hrd1 6 _ rfl
    refine J_read1 3 rfl i.toNat (map_at ho) (by kernel_rfl) (fun b2 off2 cs2 ty2 fz2 a2_0 c2_0 ha2 hrd2 => ?_)
    cases ha2
    have hrd2_0 := rd0 (hrd2 0 _ rfl)
    have hrd2_1 := hrd2 1 _ rfl
    have hrd2_2 := hrd2 2 _ rfl
    have hrd2_3 := hrd2 3 _ rfl
    have hrd2_4 := hrd2 4 _ rfl
    have hrd2_5 := hrd2 5 _ rfl
    have hrd2_6 := hrd2 6 _ rfl
    try simp only [List.cons_append, List.nil_append, List.append_nil]
    refine J_skip ?_
    refine J_seq ?_
    refine J_block ?_
    refine J_seq ?_
    refine JR_begin mixed [(0, true), (1, true), (2, true), (3, true), (4, true), (5, true), (6, true), (7, true), (8, true), (9, true), (10, false), (11, true)] [] (by kernel_rfl) (by kernel_rfl) ?_
    refine JR_run (id := 6) (rest := [(10, false), (11, true)]) [.rd 0 [] 0 0, .rd 1 [.o 0 none] 0 0, .rd 2 [] 0 0, .rd 3 [] 0 2, .rd 4 [.r 0 (some (.int .i64 o.no)), .r 0 (some (.string o.key)), .r 0 (some (.int .i64 o.kind)), .r 0 (some (.string o.text)), .r 0 (some (.int .i64 o.n)), .r 0 (some (.bool o.remove)), .r 0 (some (.slice (a1_0, c1_0).fst ((List.map eDot o.dots).length) c1_0))] 0 0, .rd 5 [] 0 0, .rd 6 [.o 1 none] 0 0, .rd 7 [] 0 0, .rd 8 [] 0 2, .rd 9 [.r 1 (some (.int .i64 o.no)), .r 1 (some (.string o.key)), .r 1 (some (.int .i64 o.kind)), .r 1 (some (.string o.text)), .r 1 (some (.int .i64 o.n)), .r 1 (some (.bool o.remove)), .r 1 (some (.slice (a2_0, c2_0).fst ((List.map eDot o.dots).length) c2_0))] 0 0] [2, 3, 4, 5, 40, 45] (E1 := fun _ => [(2, .val (.pointer (some (⟨nu1 0, 0, none⟩)))), (3, .val (.pointer (some (⟨nu1 1, 0, none⟩)))), (4, .val (.bool false)), (5, .val (.int .i64 i)), (40, .val (.agg #[.int .i64 o.no, .string o.key, .int .i64 o.kind, .string o.text, .int .i64 o.n, .bool o.remove, .slice (a1_0, c1_0).fst ((List.map eDot o.dots).length) c1_0])), (45, .val (.agg #[.int .i64 o.no, .string o.key, .int .i64 o.kind, .string o.text, .int .i64 o.n, .bool o.remove, .slice (a2_0, c2_0).fst ((List.map eDot o.dots).length) c2_0]))]) (h1 := fun _ => [(nu1 0, .cells #[.slice a1 c.when.length c1, .int .i64 c.place, .slice (some (⟨b1, off1, none⟩)) c.ops.length c2] 35 (0, 0)), (nu1 1, .cells #[.slice u1 c.when.length d1, .int .i64 c.place, .slice (some (⟨b2, off2, none⟩)) c.ops.length d2] 35 (0, 0))]) (p1 := fun _ => [(0 : Int) ≤ i, i < (↑c.ops.length : Int), cs1[off1 + i.toNat * (7 : Nat)]? = some (Value.int IntKind.i64 o.no), cs1[off1 + i.toNat * (7 : Nat) + (1 : Nat)]? = some (Value.string o.key), cs1[off1 + i.toNat * (7 : Nat) + (2 : Nat)]? = some (Value.int IntKind.i64 o.kind), cs1[off1 + i.toNat * (7 : Nat) + (3 : Nat)]? = some (Value.string o.text), cs1[off1 + i.toNat * (7 : Nat) + (4 : Nat)]? = some (Value.int IntKind.i64 o.n), cs1[off1 + i.toNat * (7 : Nat) + (5 : Nat)]? = some (Value.bool o.remove), cs1[off1 + i.toNat * (7 : Nat) + (6 : Nat)]? = some (Value.slice (a1_0, c1_0).fst (List.map eDot o.dots).length (a1_0, c1_0).snd), (0 : Int) ≤ i, i < (↑c.ops.length : Int), cs2[off2 + i.toNat * (7 : Nat)]? = some (Value.int IntKind.i64 o.no), cs2[off2 + i.toNat * (7 : Nat) + (1 : Nat)]? = some (Value.string o.key), cs2[off2 + i.toNat * (7 : Nat) + (2 : Nat)]? = some (Value.int IntKind.i64 o.kind), cs2[off2 + i.toNat * (7 : Nat) + (3 : Nat)]? = some (Value.string o.text), cs2[off2 + i.toNat * (7 : Nat) + (4 : Nat)]? = some (Value.int IntKind.i64 o.n), cs2[off2 + i.toNat * (7 : Nat) + (5 : Nat)]? = some (Value.bool o.remove), cs2[off2 + i.toNat * (7 : Nat) + (6 : Nat)]? = some (Value.slice (a2_0, c2_0).fst (List.map eDot o.dots).length (a2_0, c2_0).snd)]) (W1 := []) (fun _ => by kernel_rfl) (fun _ => ⟨hi0, hlt2, hrd1_0, hrd1_1, hrd1_2, hrd1_3, hrd1_4, hrd1_5, hrd1_6, hi0, hlt2, hrd2_0, hrd2_1, hrd2_2, hrd2_3, hrd2_4, hrd2_5, hrd2_6, trivial⟩) (fun _ => ?_)
    refine JR_callp [] 53 #[.agg #[.int .i64 o.no, .string o.key, .int .i64 o.kind, .string o.text, .int .i64 o.n, .bool o.remove, .slice (a1_0, c1_0).fst ((List.map eDot o.dots).length) c1_0], .agg #[.int .i64 o.no, .string o.key, .int .i64 o.kind, .string o.text, .int .i64 o.n, .bool o.remove, .slice (a2_0, c2_0).fst ((List.map eDot o.dots).length) c2_0]] (some 46) (by kernel_rfl) (fun w S hG => ?_)
    refine (sameOp_eq (o := o) (hG.at 4 rfl) (hG.at 5 rfl) (hl3 o (List.mem_of_getElem? ho))).mono ?_
    rintro e1 w1 hR
    refine ⟨_, _, _, hR, ?_⟩
    try simp only [List.cons_append, List.nil_append, List.append_nil]
    refine JR_run (id := 6) (rest := []) [.rd 11 [] 0 0] [2, 3, 4, 5, 6] (E1 := fun _ => [(2, .val (.pointer (some (⟨nu1 0, 0, none⟩)))), (3, .val (.pointer (some (⟨nu1 1, 0, none⟩)))), (4, .val (.bool false)), (5, .val (.int .i64 i)), (6, .val (.bool true))]) (h1 := fun _ => [(nu1 0, .cells #[.slice a1 c.when.length c1, .int .i64 c.place, .slice (some (⟨b1, off1, none⟩)) c.ops.length c2] 35 (0, 0)), (nu1 1, .cells #[.slice u1 c.when.length d1, .int .i64 c.place, .slice (some (⟨b2, off2, none⟩)) c.ops.length d2] 35 (0, 0))]) (p1 := fun _ => []) (W1 := []) (fun _ => by kernel_rfl) (fun _ => trivial) (fun _ => ?_)
    refine JR_end ?_
    refine J_seq ?_
    refine J_reg mixed [.rd 0 [] 0 0, .rd 1 [] 0 0] [] [2, 3, 4, 5, 6, 48] (E1 := fun _ => [(2, .val (.pointer (some (⟨nu1 0, 0, none⟩)))), (3, .val (.pointer (some (⟨nu1 1, 0, none⟩)))), (4, .val (.bool false)), (5, .val (.int .i64 i)), (6, .val (.bool true)), (48, .val (.bool false))]) (h1 := fun _ => [(nu1 0, .cells #[.slice a1 c.when.length c1, .int .i64 c.place, .slice (some (⟨b1, off1, none⟩)) c.ops.length c2] 35 (0, 0)), (nu1 1, .cells #[.slice u1 c.when.length d1, .int .i64 c.place, .slice (some (⟨b2, off2, none⟩)) c.ops.length d2] 35 (0, 0))]) (p1 := fun _ => []) (W1 := []) (by kernel_rfl) (fun _ => by kernel_rfl) (fun _ => trivial) (fun _ => ?_)
    refine J_cond_f (by kernel_rfl) (by kernel_rfl) ?_
    refine J_skip ?_
    refine J_eb ?_
    refine J_reg mixed [.rd 0 [] 0 0, .rd 1 [] 0 1, .rd 2 [] 0 0] [] [2, 3, 4, 5, 6] (E1 := fun _ => [(2, .val (.pointer (some (⟨nu1 0, 0, none⟩)))), (3, .val (.pointer (some (⟨nu1 1, 0, none⟩)))), (4, .val (.bool false)), (5, .val (.int .i64 (i + 1))), (6, .val (.bool true))]) (h1 := fun _ => [(nu1 0, .cells #[.slice a1 c.when.length c1, .int .i64 c.place, .slice (some (⟨b1, off1, none⟩)) c.ops.length c2] 35 (0, 0)), (nu1 1, .cells #[.slice u1 c.when.length d1, .int .i64 c.place, .slice (some (⟨b2, off2, none⟩)) c.ops.length d2] 35 (0, 0))]) (p1 := fun _ => [IntKind.i64.wrap (i + (1 : Int)) = i + (1 : Int)]) (W1 := []) (by kernel_rfl) (fun _ => by kernel_rfl) (fun _ => ⟨wrap_i64 (by omega) (by omega), trivial⟩) (fun _ => ?_)
    refine J_backx (i + 1) [2, 3, 4, 5] [0, 1] [] [0, 1, 2, 3] ?_ ?_ (by kernel_rfl) rfl rfl rfl
    · exact ⟨by omega, by omega⟩
    · omega
  · refine J_exit rfl ?_
    refine J_seq ?_
    refine J_reg mixed [.rd 0 [] 0 0] [] [4] (E1 := fun _ => [(4, .val (.bool true))]) (h1 := fun _ => [(nu1 0, .cells #[.slice a1 c.when.length c1, .int .i64 c.place, .slice a2 c.ops.length c2] 35 (0, 0)), (nu1 1, .cells #[.slice u1 c.when.length d1, .int .i64 c.place, .slice u2 c.ops.length d2] 35 (0, 0))]) (p1 := fun _ => []) (W1 := []) (by kernel_rfl) (fun _ => by kernel_rfl) (fun _ => trivial) (fun _ => ?_)
    refine J_return [[]] (.bool true) (by kernel_rfl) (fun a w s => ?_)
    exact s.ret (by simp) [] [] rfl rfl

theorem sameMessage_eq {w0 : World} {S : Nat → Prop} {a1 a2 u1 u2 : Option Addr} {n1 c1 n2 c2 m1 d1 m2 d2 : Nat} {m : MsgT} (h1 : Rep w0 S (.slice a1 n1 c1) (dInts m.c.when)) (h2 : Rep w0 S (.slice a2 n2 c2) (.sl 7 (m.c.ops.map eOp))) (h3 : Rep w0 S (.slice u1 m1 d1) (dInts m.c.when)) (h4 : Rep w0 S (.slice u2 m2 d2) (.sl 7 (m.c.ops.map eOp))) (hl1 : m.c.when.length ≤ 1000000) (hl2 : m.c.ops.length ≤ 1000000) (hl3 : ∀ o ∈ m.c.ops, o.dots.length ≤ 1000000) :
    Calls Tryd.prog 28 #[.agg #[.int .i64 m.fm, .int .i64 m.to, .int .i64 m.shard, .int .i64 m.seq, .int .i64 m.time, .bool m.beat, .slice a1 n1 c1, .int .i64 m.c.place, .slice a2 n2 c2], .agg #[.int .i64 m.fm, .int .i64 m.to, .int .i64 m.shard, .int .i64 m.seq, .int .i64 m.time, .bool m.beat, .slice u1 m1 d1, .int .i64 m.c.place, .slice u2 m2 d2]] w0 fun e w' => Ret [] w0 S w' e (.bool true) [] [] := by
  refine ep28 (args := [.agg #[.int .i64 m.fm, .int .i64 m.to, .int .i64 m.shard, .int .i64 m.seq, .int .i64 m.time, .bool m.beat, .slice a1 n1 c1, .int .i64 m.c.place, .slice a2 n2 c2], .agg #[.int .i64 m.fm, .int .i64 m.to, .int .i64 m.shard, .int .i64 m.seq, .int .i64 m.time, .bool m.beat, .slice u1 m1 d1, .int .i64 m.c.place, .slice u2 m2 d2]]) (G := [(_, dInts m.c.when), (_, .sl 7 (m.c.ops.map eOp)), (_, dInts m.c.when), (_, .sl 7 (m.c.ops.map eOp))]) (by kernel_rfl) (.cons h1 (.cons h2 (.cons h3 (.cons h4 (.nil _ _))))) ?_
  refine J_seq ?_
  refine J_reg mixed [.wr 0 [] 0, .wr 1 [] 0, .rd 2 [] 0 0] [] [2, 3, 4] (E1 := fun nu1 => [(2, .val (.pointer (some (⟨nu1 0, 0, none⟩)))), (3, .val (.pointer (some (⟨nu1 1, 0, none⟩)))), (4, .val (.bool false))]) (h1 := fun nu1 => [(nu1 0, .cells #[.int .i64 m.fm, .int .i64 m.to, .int .i64 m.shard, .int .i64 m.seq, .int .i64 m.time, .bool m.beat, .slice a1 n1 c1, .int .i64 m.c.place, .slice a2 n2 c2] 55 (0, 0)), (nu1 1, .cells #[.int .i64 m.fm, .int .i64 m.to, .int .i64 m.shard, .int .i64 m.seq, .int .i64 m.time, .bool m.beat, .slice u1 m1 d1, .int .i64 m.c.place, .slice u2 m2 d2] 55 (0, 0))]) (p1 := fun nu1 => []) (W1 := []) (by kernel_rfl) (fun _ => by kernel_rfl) (fun _ => trivial) (fun nu1 => ?_)
  refine J_seq ?_
  refine J_seq ?_
  refine J_reg mixed [.rd 0 [] 0 0, .rd 1 [.o 0 none] 0 0, .rd 2 [] 0 0, .rd 3 [.o 1 none] 0 0, .rd 4 [] 0 7, .rd 5 [] 0 0, .rd 6 [] 0 0, .rd 7 [.o 0 none] 0 0, .rd 8 [] 0 0, .rd 9 [.o 1 none] 0 0, .rd 10 [] 0 7, .rd 11 [] 0 0, .rd 12 [] 0 0, .rd 13 [] 0 0, .rd 14 [.o 0 none] 0 0, .rd 15 [] 0 0, .rd 16 [.o 1 none] 0 0, .rd 17 [] 0 7, .rd 18 [] 0 0, .rd 19 [] 0 0, .rd 20 [] 0 0, .rd 21 [.o 0 none] 0 0, .rd 22 [] 0 0, .rd 23 [.o 1 none] 0 0, .rd 24 [] 0 7, .rd 25 [] 0 0, .rd 26 [] 0 0, .rd 27 [] 0 0, .rd 28 [.o 0 none] 0 0, .rd 29 [] 0 0, .rd 30 [.o 1 none] 0 0, .rd 31 [] 0 7, .rd 32 [] 0 0, .rd 33 [] 0 0, .rd 34 [] 0 0, .rd 35 [.o 0 none] 0 0, .rd 36 [] 0 0, .rd 37 [.o 1 none] 0 0, .rd 38 [] 0 7, .rd 39 [] 0 0] [] [2, 3, 4, 44] (E1 := fun _ => [(2, .val (.pointer (some (⟨nu1 0, 0, none⟩)))), (3, .val (.pointer (some (⟨nu1 1, 0, none⟩)))), (4, .val (.bool false)), (44, .val (.bool false))]) (h1 := fun _ => [(nu1 0, .cells #[.int .i64 m.fm, .int .i64 m.to, .int .i64 m.shard, .int .i64 m.seq, .int .i64 m.time, .bool m.beat, .slice a1 n1 c1, .int .i64 m.c.place, .slice a2 n2 c2] 55 (0, 0)), (nu1 1, .cells #[.int .i64 m.fm, .int .i64 m.to, .int .i64 m.shard, .int .i64 m.seq, .int .i64 m.time, .bool m.beat, .slice u1 m1 d1, .int .i64 m.c.place, .slice u2 m2 d2] 55 (0, 0))]) (p1 := fun _ => [(m.fm != m.fm) = false, (m.to != m.to) = false, (m.shard != m.shard) = false, (m.seq != m.seq) = false, (m.time != m.time) = false, (!m.beat == m.beat) = false]) (W1 := []) (by kernel_rfl) (fun _ => by kernel_rfl) (fun _ => ⟨by simp, by simp, by simp, by simp, by simp, by simp, trivial⟩) (fun _ => ?_)
  refine J_cond_f (by kernel_rfl) (by kernel_rfl) ?_
  refine J_skip ?_
  refine J_seq ?_
  refine JR_begin mixed [(0, true), (1, true), (2, true), (3, true), (4, false), (5, true)] [] (by kernel_rfl) (by kernel_rfl) ?_
  refine JR_run (id := 3) (rest := [(4, false), (5, true)]) [.rd 0 [] 0 0, .rd 1 [.o 0 none, .o 0 none, .o 0 none] 0 0, .rd 2 [] 0 0, .rd 3 [.o 1 none, .o 1 none, .o 1 none] 0 0] [4, 46, 48] (E1 := fun _ => [(4, .val (.bool false)), (46, .val (.agg #[.slice a1 n1 c1, .int .i64 m.c.place, .slice a2 n2 c2])), (48, .val (.agg #[.slice u1 m1 d1, .int .i64 m.c.place, .slice u2 m2 d2]))]) (h1 := fun _ => [(nu1 0, .cells #[.int .i64 m.fm, .int .i64 m.to, .int .i64 m.shard, .int .i64 m.seq, .int .i64 m.time, .bool m.beat, .slice a1 n1 c1, .int .i64 m.c.place, .slice a2 n2 c2] 55 (0, 0)), (nu1 1, .cells #[.int .i64 m.fm, .int .i64 m.to, .int .i64 m.shard, .int .i64 m.seq, .int .i64 m.time, .bool m.beat, .slice u1 m1 d1, .int .i64 m.c.place, .slice u2 m2 d2] 55 (0, 0))]) (p1 := fun _ => []) (W1 := []) (fun _ => by kernel_rfl) (fun _ => trivial) (fun _ => ?_)
  refine JR_callp [] 42 #[.agg #[.slice a1 n1 c1, .int .i64 m.c.place, .slice a2 n2 c2], .agg #[.slice u1 m1 d1, .int .i64 m.c.place, .slice u2 m2 d2]] (some 49) (by kernel_rfl) (fun w S hG => ?_)
  refine (sameCommit_eq (c := m.c) (hG.at 0 rfl) (hG.at 1 rfl) (hG.at 2 rfl) (hG.at 3 rfl) hl1 hl2 hl3).mono ?_
  rintro e1 w1 hR
  refine ⟨_, _, _, hR, ?_⟩
  try simp only [List.cons_append, List.nil_append, List.append_nil]
  refine JR_run (id := 3) (rest := []) [.rd 5 [] 0 0] [4] (E1 := fun _ => [(4, .val (.bool true))]) (h1 := fun _ => [(nu1 0, .cells #[.int .i64 m.fm, .int .i64 m.to, .int .i64 m.shard, .int .i64 m.seq, .int .i64 m.time, .bool m.beat, .slice a1 n1 c1, .int .i64 m.c.place, .slice a2 n2 c2] 55 (0, 0)), (nu1 1, .cells #[.int .i64 m.fm, .int .i64 m.to, .int .i64 m.shard, .int .i64 m.seq, .int .i64 m.time, .bool m.beat, .slice u1 m1 d1, .int .i64 m.c.place, .slice u2 m2 d2] 55 (0, 0))]) (p1 := fun _ => []) (W1 := []) (fun _ => by kernel_rfl) (fun _ => trivial) (fun _ => ?_)
  refine JR_end ?_
  refine J_return [[]] (.bool true) (by kernel_rfl) (fun a w s => ?_)
  exact s.ret (by simp) [] [] rfl rfl

def heavyOp (o : OpT) : Bool := decide (60 < (o.key.size : Int)) || decide (200 < (o.text.size : Int)) || decide (70 < (o.dots.length : Int))
def heavyC (c : ComT) : Int := if 20 < c.when.length ∨ 20 < c.ops.length then 1 else if c.ops.any heavyOp then 1 else 0
theorem heavyCommit {w0 : World} {S : Nat → Prop} {a1 a2 : Option Addr} {n1 c1 n2 c2 : Nat} {c : ComT} (h1 : Rep w0 S (.slice a1 n1 c1) (dInts c.when)) (h2 : Rep w0 S (.slice a2 n2 c2) (.sl 7 (c.ops.map eOp))) :
    Calls Tryd.prog 23 #[.agg #[.slice a1 n1 c1, .int .i64 c.place, .slice a2 n2 c2]] w0 fun e w' => Ret [] w0 S w' e (.int .i64 (heavyC c)) [] [] := by
  obtain rfl := rep_ints_len h1
  have e2 := h2.slen
  rw [List.length_map] at e2
  subst e2
  refine ep23 (args := [.agg #[.slice a1 c.when.length c1, .int .i64 c.place, .slice a2 c.ops.length c2]]) (G := [(_, dInts c.when), (_, .sl 7 (c.ops.map eOp))]) (by kernel_rfl) (.cons h1 (.cons h2 (.nil _ _))) ?_
  refine J_seq ?_
  refine J_reg mixed [.wr 0 [] 0, .rd 1 [] 0 0] [] [1, 2] (E1 := fun nu1 => [(1, .val (.pointer (some (⟨nu1 0, 0, none⟩)))), (2, .val (.int .i64 0))]) (h1 := fun nu1 => [(nu1 0, .cells #[.slice a1 c.when.length c1, .int .i64 c.place, .slice a2 c.ops.length c2] 35 (0, 0))]) (p1 := fun nu1 => []) (W1 := []) (by kernel_rfl) (fun _ => by kernel_rfl) (fun _ => trivial) (fun nu1 => ?_)
  refine J_seq ?_
  refine J_seq ?_
  refine J_reg mixed [.rd 0 [] 0 0, .rd 1 [.o 0 none] 0 0, .rd 2 [] 0 0, .rd 3 [] 0 0, .rd 4 [] 0 0, .rd 5 [] 2 0, .rd 6 [.o 0 none] 2 0, .rd 7 [] 2 0, .rd 8 [] 2 0, .rd 9 [] 0 3] [] [1, 2, 13] (E1 := fun _ => [(1, .val (.pointer (some (⟨nu1 0, 0, none⟩)))), (2, .val (.int .i64 0)), (13, .val (.bool (decide ((↑c.when.length : Int) > 20) || decide ((↑c.ops.length : Int) > 20))))]) (h1 := fun _ => [(nu1 0, .cells #[.slice a1 c.when.length c1, .int .i64 c.place, .slice a2 c.ops.length c2] 35 (0, 0))]) (p1 := fun _ => []) (W1 := []) (by kernel_rfl) (fun _ => by kernel_rfl) (fun _ => trivial) (fun _ => ?_)
  refine J_cond (t := decide ((↑c.when.length : Int) > 20) || decide ((↑c.ops.length : Int) > 20)) (by kernel_rfl) (by kernel_rfl) (fun hbig => ?_) (fun hbig => ?_)
  · refine J_seq ?_
    refine J_reg mixed [.rd 0 [] 0 0] [] [1, 2] (E1 := fun _ => [(1, .val (.pointer (some (⟨nu1 0, 0, none⟩)))), (2, .val (.int .i64 1))]) (h1 := fun _ => [(nu1 0, .cells #[.slice a1 c.when.length c1, .int .i64 c.place, .slice a2 c.ops.length c2] 35 (0, 0))]) (p1 := fun _ => []) (W1 := []) (by kernel_rfl) (fun _ => by kernel_rfl) (fun _ => trivial) (fun _ => ?_)
    refine J_return [[]] (.int .i64 1) (by kernel_rfl) (fun a w s => ?_)
    have e1 : heavyC c = 1 := by rw [heavyC, if_pos (by simp at hbig; omega)]
    rw [e1]
    exact s.ret (by simp) [] [] rfl rfl
  · have hn : ¬ (20 < c.when.length ∨ 20 < c.ops.length) := by simp at hbig; omega
    refine J_skip ?_
    refine J_seq ?_
    refine J_seq ?_
    refine J_reg mixed [.rd 0 [] 0 0] [] [1, 2, 3] (E1 := fun _ => [(1, .val (.pointer (some (⟨nu1 0, 0, none⟩)))), (2, .val (.int .i64 0)), (3, .val (.int .i64 0))]) (h1 := fun _ => [(nu1 0, .cells #[.slice a1 c.when.length c1, .int .i64 c.place, .slice a2 c.ops.length c2] 35 (0, 0))]) (p1 := fun _ => []) (W1 := []) (by kernel_rfl) (fun _ => by kernel_rfl) (fun _ => trivial) (fun _ => ?_)
    refine J_block ?_
    refine J_loopx (fun i : Int => [(1, .val (.pointer (some (⟨nu1 0, 0, none⟩)))), (2, .val (.int .i64 0)), (3, .val (.int .i64 i))]) (fun i : Int => [(nu1 0, .cells #[.slice a1 c.when.length c1, .int .i64 c.place, .slice a2 c.ops.length c2] 35 (0, 0))]) (fun i : Int => []) (fun i : Int => [(.slice a1 c.when.length c1, (dInts c.when)), (.slice a2 c.ops.length c2, (D.sl 7 (List.map eOp c.ops)))]) (fun i : Int => (c.ops.length - i).toNat) (fun i : Int => (0 ≤ i ∧ i ≤ c.ops.length ∧ ∀ j : Nat, j < i.toNat → ∀ o, c.ops[j]? = some o → heavyOp o = false)) 0 [1, 2, 3] [0] [] [0, 1] ?_ (by kernel_rfl) rfl rfl rfl ?_
    · exact ⟨by omega, by omega, by simp⟩
    rintro i ⟨hi0, hi, hno⟩
    refine J_seq ?_
    refine J_seq ?_
    refine J_reg mixed [.rd 0 [] 0 0, .rd 1 [] 0 0, .rd 2 [.o 0 none] 0 0, .rd 3 [] 0 0, .rd 4 [] 0 0] [] [1, 2, 3, 18] (E1 := fun _ => [(1, .val (.pointer (some (⟨nu1 0, 0, none⟩)))), (2, .val (.int .i64 0)), (3, .val (.int .i64 i)), (18, .val (.bool (decide (i < (↑c.ops.length : Int)))))]) (h1 := fun _ => [(nu1 0, .cells #[.slice a1 c.when.length c1, .int .i64 c.place, .slice a2 c.ops.length c2] 35 (0, 0))]) (p1 := fun _ => []) (W1 := []) (by kernel_rfl) (fun _ => by kernel_rfl) (fun _ => trivial) (fun _ => ?_)
    refine J_cond (t := decide (i < (↑c.ops.length : Int))) (by kernel_rfl) (by kernel_rfl) (fun hlt => ?_) (fun hlt => ?_)
    · have hlt2 : i < c.ops.length := by simpa using hlt
      obtain ⟨o, ho⟩ : ∃ o, c.ops[i.toNat]? = some o := ⟨_, List.getElem?_eq_getElem (by omega)⟩
      refine J_read1 1 rfl i.toNat (map_at ho) (by kernel_rfl) (fun b1 off1 cs1 ty1 fz1 a1_0 c1_0 ha1 hrd1 => ?_)
      cases ha1
      have hrd1_0 := rd0 (hrd1 0 _ rfl)
      have hrd1_1 := hrd1 1 _ rfl
      have hrd1_2 := hrd1 2 _ rfl
      have hrd1_3 := hrd1 3 _ rfl
      have hrd1_4 := hrd1 4 _ rfl
      have hrd1_5 := hrd1 5 _ rfl
      have hrd1_6 := hrd1 6 _ rfl
      try simp only [List.cons_append, List.nil_append, List.append_nil]
      refine J_skip ?_
      refine J_seq ?_
      refine J_block ?_
      refine J_seq ?_
      refine J_reg mixed [.rd 0 [] 0 0, .rd 1 [.o 0 none] 0 0, .rd 2 [] 0 0, .rd 3 [] 0 2, .rd 4 [] 0 0, .rd 5 [.r 0 (some (.string o.key))] 0 0, .rd 6 [] 0 0, .rd 7 [] 0 0, .rd 8 [] 0 0, .rd 9 [] 2 0, .rd 10 [.o 0 none] 2 0, .rd 11 [] 2 0, .rd 12 [] 2 2, .rd 13 [] 2 0, .rd 14 [.r 0 (some (.string o.text))] 2 0, .rd 15 [] 2 0, .rd 16 [] 2 0, .rd 17 [] 0 3, .rd 18 [] 0 0, .rd 19 [] 2 0, .rd 20 [.o 0 none] 2 0, .rd 21 [] 2 0, .rd 22 [] 2 2, .rd 23 [] 2 0, .rd 24 [.r 0 (some (.slice (a1_0, c1_0).fst ((List.map eDot o.dots).length) c1_0))] 2 0, .rd 25 [] 2 0, .rd 26 [] 2 0, .rd 27 [] 0 3] [] [1, 2, 3, 48] (E1 := fun _ => [(1, .val (.pointer (some (⟨nu1 0, 0, none⟩)))), (2, .val (.int .i64 0)), (3, .val (.int .i64 i)), (48, .val (.bool (decide ((↑o.key.size : Int) > 60) || decide ((↑o.text.size : Int) > 200) || decide ((↑(List.map eDot o.dots).length : Int) > 70))))]) (h1 := fun _ => [(nu1 0, .cells #[.slice a1 c.when.length c1, .int .i64 c.place, .slice (some (⟨b1, off1, none⟩)) c.ops.length c2] 35 (0, 0))]) (p1 := fun _ => [(0 : Int) ≤ i, i < (↑c.ops.length : Int), cs1[off1 + i.toNat * (7 : Nat) + (1 : Nat)]? = some (Value.string o.key), (decide ((↑o.key.size : Int) > 60)) = false → (0 : Int) ≤ i, (decide ((↑o.key.size : Int) > 60)) = false → i < (↑c.ops.length : Int), (decide ((↑o.key.size : Int) > 60)) = false → cs1[off1 + i.toNat * (7 : Nat) + (3 : Nat)]? = some (Value.string o.text), (decide ((↑o.key.size : Int) > 60) || decide ((↑o.text.size : Int) > 200)) = false → (0 : Int) ≤ i, (decide ((↑o.key.size : Int) > 60) || decide ((↑o.text.size : Int) > 200)) = false → i < (↑c.ops.length : Int), (decide ((↑o.key.size : Int) > 60) || decide ((↑o.text.size : Int) > 200)) = false → cs1[off1 + i.toNat * (7 : Nat) + (6 : Nat)]? = some (Value.slice (a1_0, c1_0).fst (List.map eDot o.dots).length (a1_0, c1_0).snd)]) (W1 := []) (by kernel_rfl) (fun _ => by kernel_rfl) (fun _ => ⟨hi0, hlt2, hrd1_1, (fun _ => hi0), (fun _ => hlt2), (fun _ => hrd1_3), (fun _ => hi0), (fun _ => hlt2), (fun _ => hrd1_6), trivial⟩) (fun _ => ?_)
      refine J_cond (t := decide ((↑o.key.size : Int) > 60) || decide ((↑o.text.size : Int) > 200) || decide ((↑(List.map eDot o.dots).length : Int) > 70)) (by kernel_rfl) (by kernel_rfl) (fun hb => ?_) (fun hb => ?_)
      · refine J_seq ?_
        refine J_reg mixed [.rd 0 [] 0 0] [] [1, 2, 3] (E1 := fun _ => [(1, .val (.pointer (some (⟨nu1 0, 0, none⟩)))), (2, .val (.int .i64 1)), (3, .val (.int .i64 i))]) (h1 := fun _ => [(nu1 0, .cells #[.slice a1 c.when.length c1, .int .i64 c.place, .slice (some (⟨b1, off1, none⟩)) c.ops.length c2] 35 (0, 0))]) (p1 := fun _ => []) (W1 := []) (by kernel_rfl) (fun _ => by kernel_rfl) (fun _ => trivial) (fun _ => ?_)
        refine J_return [[]] (.int .i64 1) (by kernel_rfl) (fun a w s => ?_)
        have e1 : heavyC c = 1 := by
          rw [heavyC, if_neg hn, if_pos (List.any_eq_true.2 ⟨o, List.mem_of_getElem? ho, ?_⟩)]
          simpa [heavyOp] using hb
        rw [e1]
        exact s.ret (by simp) [] [] rfl rfl
      · refine J_skip ?_
        refine J_eb ?_
        refine J_reg mixed [.rd 0 [] 0 0, .rd 1 [] 0 1, .rd 2 [] 0 0] [] [1, 2, 3] (E1 := fun _ => [(1, .val (.pointer (some (⟨nu1 0, 0, none⟩)))), (2, .val (.int .i64 0)), (3, .val (.int .i64 (i + 1)))]) (h1 := fun _ => [(nu1 0, .cells #[.slice a1 c.when.length c1, .int .i64 c.place, .slice (some (⟨b1, off1, none⟩)) c.ops.length c2] 35 (0, 0))]) (p1 := fun _ => [IntKind.i64.wrap (i + (1 : Int)) = i + (1 : Int)]) (W1 := []) (by kernel_rfl) (fun _ => by kernel_rfl) (fun _ => ⟨wrap_i64 (by omega) (by omega), trivial⟩) (fun _ => ?_)
        refine J_backx (i + 1) [1, 2, 3] [0] [] [0, 1] ?_ ?_ (by kernel_rfl) rfl rfl rfl
        · refine ⟨by omega, by omega, fun j hj o' ho' => ?_⟩
          by_cases hji : j = i.toNat
          · subst hji
            rw [ho] at ho'
            cases ho'
            simpa [heavyOp] using hb
          · exact hno j (by omega) o' ho'
        · omega
    · refine J_exit rfl ?_
      refine J_seq ?_
      refine J_reg mixed [.rd 0 [] 0 0] [] [2] (E1 := fun _ => [(2, .val (.int .i64 0))]) (h1 := fun _ => [(nu1 0, .cells #[.slice a1 c.when.length c1, .int .i64 c.place, .slice a2 c.ops.length c2] 35 (0, 0))]) (p1 := fun _ => []) (W1 := []) (by kernel_rfl) (fun _ => by kernel_rfl) (fun _ => trivial) (fun _ => ?_)
      refine J_return [[]] (.int .i64 0) (by kernel_rfl) (fun a w s => ?_)
      have e1 : heavyC c = 0 := by
        rw [heavyC, if_neg hn, if_neg]
        rw [Bool.not_eq_true, List.any_eq_false]
        intro o ho
        obtain ⟨j, hj⟩ := List.getElem?_of_mem ho
        have hjl := (List.getElem?_eq_some_iff.1 hj).1
        simp [hno j (by simp at hlt; omega) o hj]
      rw [e1]
      exact s.ret (by simp) [] [] rfl rfl

theorem wireOf {w0 : World} {S : Nat → Prop} {a1 a2 : Option Addr} {n1 c1 n2 c2 : Nat} {m : MsgT} (h1 : Rep w0 S (.slice a1 n1 c1) (dInts m.c.when)) (h2 : Rep w0 S (.slice a2 n2 c2) (.sl 7 (m.c.ops.map eOp))) (hl1 : m.c.when.length ≤ 1000000) (hl2 : m.c.ops.length ≤ 1000000) (hl3 : ∀ o ∈ m.c.ops, o.dots.length ≤ 1000000) :
    Calls Tryd.prog 17 #[.agg #[.int .i64 m.fm, .int .i64 m.to, .int .i64 m.shard, .int .i64 m.seq, .int .i64 m.time, .bool m.beat, .slice a1 n1 c1, .int .i64 m.c.place, .slice a2 n2 c2]] w0 fun e w' => ∃ b1 m1 d1 b2 m2 d2,
      Ret [] w0 S w' e (.agg #[.int .i64 m.fm, .int .i64 m.to, .int .i64 m.shard, .int .i64 m.seq, .int .i64 m.time, .bool m.beat, .slice b1 m1 d1, .int .i64 m.c.place, .slice b2 m2 d2]) [] [(.slice b1 m1 d1, dInts m.c.when), (.slice b2 m2 d2, .sl 7 (m.c.ops.map eOp))] := by
  refine ep17 (args := [.agg #[.int .i64 m.fm, .int .i64 m.to, .int .i64 m.shard, .int .i64 m.seq, .int .i64 m.time, .bool m.beat, .slice a1 n1 c1, .int .i64 m.c.place, .slice a2 n2 c2]]) (G := [(_, dInts m.c.when), (_, .sl 7 (m.c.ops.map eOp))]) (by kernel_rfl) (.cons h1 (.cons h2 (.nil _ _))) ?_
  refine J_seq ?_
  refine J_reg mixed [.wr 0 [] 0, .wr 1 [] 0] [] [1, 2] (E1 := fun nu1 => [(1, .val (.pointer (some (⟨nu1 0, 0, none⟩)))), (2, .val (.pointer (some (⟨nu1 1, 0, none⟩))))]) (h1 := fun nu1 => [(nu1 0, .cells #[.int .i64 m.fm, .int .i64 m.to, .int .i64 m.shard, .int .i64 m.seq, .int .i64 m.time, .bool m.beat, .slice a1 n1 c1, .int .i64 m.c.place, .slice a2 n2 c2] 55 (0, 0)), (nu1 1, .cells #[.int .i64 0, .int .i64 0, .int .i64 0, .int .i64 0, .int .i64 0, .bool false, .slice none 0 0, .int .i64 0, .slice none 0 0] 37 (0, 0))]) (p1 := fun nu1 => []) (W1 := []) (by kernel_rfl) (fun _ => by kernel_rfl) (fun _ => trivial) (fun nu1 => ?_)
  refine J_seq ?_
  refine JR_begin mixed [(0, true), (1, true), (2, true), (3, true), (4, true), (5, true), (6, true), (7, true), (8, true), (9, true), (10, true), (11, true), (12, true), (13, true), (14, false), (15, true), (16, false)] [(16, [1])] (by kernel_rfl) (by kernel_rfl) ?_
  refine JR_run (id := 1) (rest := [(14, false), (15, true), (16, false)]) [.rd 0 [] 0 0, .rd 1 [.o 0 none] 0 0, .rd 2 [] 0 0, .rd 3 [.o 0 none] 0 0, .rd 4 [] 0 0, .rd 5 [.o 0 none] 0 0, .rd 6 [] 0 0, .rd 7 [.o 0 none] 0 0, .rd 8 [] 0 0, .rd 9 [.o 0 none] 0 0, .rd 10 [] 0 0, .rd 11 [.o 0 none] 0 0, .rd 12 [] 0 0, .rd 13 [.o 0 none, .o 0 none, .o 0 none] 0 0] [2, 4, 6, 8, 10, 12, 14, 16] (E1 := fun _ => [(2, .val (.pointer (some (⟨nu1 1, 0, none⟩)))), (4, .val (.int .i64 m.fm)), (6, .val (.int .i64 m.to)), (8, .val (.int .i64 m.shard)), (10, .val (.int .i64 m.seq)), (12, .val (.int .i64 m.time)), (14, .val (.bool m.beat)), (16, .val (.agg #[.slice a1 n1 c1, .int .i64 m.c.place, .slice a2 n2 c2]))]) (h1 := fun _ => [(nu1 0, .cells #[.int .i64 m.fm, .int .i64 m.to, .int .i64 m.shard, .int .i64 m.seq, .int .i64 m.time, .bool m.beat, .slice a1 n1 c1, .int .i64 m.c.place, .slice a2 n2 c2] 55 (0, 0)), (nu1 1, .cells #[.int .i64 0, .int .i64 0, .int .i64 0, .int .i64 0, .int .i64 0, .bool false, .slice none 0 0, .int .i64 0, .slice none 0 0] 37 (0, 0))]) (p1 := fun _ => []) (W1 := [(16, [1])]) (fun _ => by kernel_rfl) (fun _ => trivial) (fun _ => ?_)
  refine JR_callp [] 25 #[.agg #[.slice a1 n1 c1, .int .i64 m.c.place, .slice a2 n2 c2]] (some 17) (by kernel_rfl) (fun w S hG => ?_)
  refine (ownCommit (c := m.c) (hG.at 0 rfl) (hG.at 1 rfl) hl1 hl2 hl3).mono ?_
  rintro e1 w1 ⟨b1, m1, d1, b2, m2, d2, hR⟩
  refine ⟨_, _, _, hR, ?_⟩
  try simp only [List.cons_append, List.nil_append, List.append_nil]
  refine JR_run (id := 1) (rest := []) [.rd 15 [] 0 0, .wr 16 [.o 1 none, .o 1 none, .o 1 none, .o 1 none, .o 1 none, .o 1 none, .o 1 none, .o 1 none, .o 1 none] 0] [2] (E1 := fun _ => [(2, .val (.pointer (some (⟨nu1 1, 0, none⟩))))]) (h1 := fun _ => [(nu1 0, .cells #[.int .i64 m.fm, .int .i64 m.to, .int .i64 m.shard, .int .i64 m.seq, .int .i64 m.time, .bool m.beat, .slice a1 n1 c1, .int .i64 m.c.place, .slice a2 n2 c2] 55 (0, 0)), (nu1 1, .cells #[.int .i64 m.fm, .int .i64 m.to, .int .i64 m.shard, .int .i64 m.seq, .int .i64 m.time, .bool m.beat, .slice b1 m1 d1, .int .i64 m.c.place, .slice b2 m2 d2] 37 (0, 0))]) (p1 := fun _ => []) (W1 := []) (fun _ => by kernel_rfl) (fun _ => trivial) (fun _ => ?_)
  refine JR_end ?_
  refine J_return [[.o 1 none, .o 1 none, .o 1 none, .o 1 none, .o 1 none, .o 1 none, .o 1 none, .o 1 none, .o 1 none]] (.agg #[.int .i64 m.fm, .int .i64 m.to, .int .i64 m.shard, .int .i64 m.seq, .int .i64 m.time, .bool m.beat, .slice b1 m1 d1, .int .i64 m.c.place, .slice b2 m2 d2]) (by kernel_rfl) (fun a w s => ?_)
  exact ⟨b1, m1, d1, b2, m2, d2, s.ret (by simp) [] [2, 3] rfl rfl⟩
end Go.Proofs.YtgelnbgjabpdbaaDoor
