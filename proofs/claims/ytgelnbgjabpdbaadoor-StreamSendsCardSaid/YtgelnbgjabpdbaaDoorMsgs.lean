/- Lists of messages: the same, turned back, not too much; the document's way. -/
import Derived.Test.YtgelnbgjabpdbaaDoorWay
import Derived.Test.YtgelnbgjabpdbaaDoorMsg2
import Derived.Test.YtgelnbgjabpdbaaDoorHearP
namespace Go.Proofs.YtgelnbgjabpdbaaDoor
open Go Go.Sx

/-- Nothing of a message is beyond what is reckoned with. -/
def Fit (m : MsgT) : Prop := m.c.when.length ≤ 1000000 ∧ m.c.ops.length ≤ 1000000 ∧ ∀ o ∈ m.c.ops, o.dots.length ≤ 1000000

theorem sameMessages_eq {w0 : World} {S : Nat → Prop} {a b : Option Addr} {n m c d : Nat} {l : List MsgT} (ha : Rep w0 S (.slice a n c) (.sl 9 (l.map eMsg))) (hb : Rep w0 S (.slice b m d) (.sl 9 (l.map eMsg))) (hl : l.length ≤ 1000000) (hf : ∀ x ∈ l, Fit x) :
    Calls Tryd.prog 20 #[.slice a n c, .slice b m d] w0 fun e w' => Ret [] w0 S w' e (.bool true) [] [] := by
  have e1 := ha.slen
  have e2 := hb.slen
  rw [List.length_map] at e1 e2
  subst e1 e2
  refine ep20 (args := [.slice a l.length c, .slice b l.length d]) (G := [(_, .sl 9 (l.map eMsg)), (_, .sl 9 (l.map eMsg))]) (by kernel_rfl) (.cons ha (.cons hb (.nil _ _))) ?_
  refine J_seq ?_
  refine J_reg mixed [.rd 0 [] 0 0] [] [0, 1, 4] (E1 := fun _ => [(0, .val (.slice a l.length c)), (1, .val (.slice b l.length d)), (4, .val (.bool false))]) (h1 := fun _ => []) (p1 := fun _ => []) (W1 := []) (by kernel_rfl) (fun _ => by kernel_rfl) (fun _ => trivial) (fun _ => ?_)
  refine J_seq ?_
  refine J_seq ?_
  refine J_reg mixed [.rd 0 [] 0 0, .rd 1 [] 0 0, .rd 2 [] 0 0, .rd 3 [] 0 0, .rd 4 [] 0 7] [] [0, 1, 4, 11] (E1 := fun _ => [(0, .val (.slice a l.length c)), (1, .val (.slice b l.length d)), (4, .val (.bool false)), (11, .val (.bool false))]) (h1 := fun _ => []) (p1 := fun _ => [((↑l.length : Int) != (↑l.length : Int)) = false]) (W1 := []) (by kernel_rfl) (fun _ => by kernel_rfl) (fun _ => ⟨by simp, trivial⟩) (fun _ => ?_)
  refine J_cond_f (by kernel_rfl) (by kernel_rfl) ?_
  refine J_skip ?_
  refine J_seq ?_
  refine J_seq ?_
  refine J_reg mixed [.rd 0 [] 0 0] [] [0, 1, 4, 5] (E1 := fun _ => [(0, .val (.slice a l.length c)), (1, .val (.slice b l.length d)), (4, .val (.bool false)), (5, .val (.int .i64 0))]) (h1 := fun _ => []) (p1 := fun _ => []) (W1 := []) (by kernel_rfl) (fun _ => by kernel_rfl) (fun _ => trivial) (fun _ => ?_)
  refine J_block ?_
  refine J_loopx (fun i : Int => [(0, .val (.slice a l.length c)), (1, .val (.slice b l.length d)), (4, .val (.bool false)), (5, .val (.int .i64 i))]) (fun i : Int => []) (fun i : Int => []) (fun i : Int => [(.slice a l.length c, (D.sl 9 (List.map eMsg l))), (.slice b l.length d, (D.sl 9 (List.map eMsg l)))]) (fun i : Int => (l.length - i).toNat) (fun i : Int => (0 ≤ i ∧ i ≤ l.length)) 0 [0, 1, 4, 5] [] [] [0, 1] ?_ (by kernel_rfl) rfl rfl rfl ?_
  · exact ⟨by omega, by omega⟩
  rintro i ⟨hi0, hi⟩
  refine J_seq ?_
  refine J_seq ?_
  refine J_reg mixed [.rd 0 [] 0 0, .rd 1 [] 0 0, .rd 2 [] 0 0, .rd 3 [] 0 0] [] [0, 1, 4, 5, 15] (E1 := fun _ => [(0, .val (.slice a l.length c)), (1, .val (.slice b l.length d)), (4, .val (.bool false)), (5, .val (.int .i64 i)), (15, .val (.bool (decide (i < (↑l.length : Int)))))]) (h1 := fun _ => []) (p1 := fun _ => []) (W1 := []) (by kernel_rfl) (fun _ => by kernel_rfl) (fun _ => trivial) (fun _ => ?_)
  refine J_cond (t := decide (i < (↑l.length : Int))) (by kernel_rfl) (by kernel_rfl) (fun hlt => ?_) (fun hlt => ?_)
  · have hlt2 : i < l.length := by simpa using hlt
    obtain ⟨x, hx⟩ : ∃ x, l[i.toNat]? = some x := ⟨_, List.getElem?_eq_getElem (by omega)⟩
    obtain ⟨f1, f2, f3⟩ := hf x (List.mem_of_getElem? hx)
    refine J_read2 0 rfl i.toNat (map_at hx) (by kernel_rfl) (fun b1 off1 cs1 ty1 fz1 a1_0 c1_0 a1_1 c1_1 ha1 hrd1 => ?_)
    cases ha1
    have hrd1_0 := rd0 (hrd1 0 _ rfl)
    have hrd1_1 := hrd1 1 _ rfl
    have hrd1_2 := hrd1 2 _ rfl
    have hrd1_3 := hrd1 3 _ rfl
    have hrd1_4 := hrd1 4 _ rfl
    have hrd1_5 := hrd1 5 _ rfl
    have hrd1_6 := hrd1 6 _ rfl
    have hrd1_7 := hrd1 7 _ rfl
    have hrd1_8 := hrd1 8 _ rfl
    refine J_read2 1 rfl i.toNat (map_at hx) (by kernel_rfl) (fun b2 off2 cs2 ty2 fz2 a2_0 c2_0 a2_1 c2_1 ha2 hrd2 => ?_)
    cases ha2
    have hrd2_0 := rd0 (hrd2 0 _ rfl)
    have hrd2_1 := hrd2 1 _ rfl
    have hrd2_2 := hrd2 2 _ rfl
    have hrd2_3 := hrd2 3 _ rfl
    have hrd2_4 := hrd2 4 _ rfl
    have hrd2_5 := hrd2 5 _ rfl
    have hrd2_6 := hrd2 6 _ rfl
    have hrd2_7 := hrd2 7 _ rfl
    have hrd2_8 := hrd2 8 _ rfl
    try simp only [List.cons_append, List.nil_append, List.append_nil]
    refine J_skip ?_
    refine J_seq ?_
    refine J_block ?_
    refine J_seq ?_
    refine JR_begin mixed [(0, true), (1, true), (2, true), (3, true), (4, true), (5, true), (6, true), (7, true), (8, false), (9, true)] [] (by kernel_rfl) (by kernel_rfl) ?_
    refine JR_run (id := 6) (rest := [(8, false), (9, true)]) [.rd 0 [] 0 0, .rd 1 [] 0 0, .rd 2 [] 0 2, .rd 3 [.r 0 (some (.int .i64 x.fm)), .r 0 (some (.int .i64 x.to)), .r 0 (some (.int .i64 x.shard)), .r 0 (some (.int .i64 x.seq)), .r 0 (some (.int .i64 x.time)), .r 0 (some (.bool x.beat)), .r 0 (some (.slice (a1_0, c1_0).fst ((List.map eI x.c.when).length) c1_0)), .r 0 (some (.int .i64 x.c.place)), .r 0 (some (.slice (a1_1, c1_1).fst ((List.map eOp x.c.ops).length) c1_1))] 0 0, .rd 4 [] 0 0, .rd 5 [] 0 0, .rd 6 [] 0 2, .rd 7 [.r 1 (some (.int .i64 x.fm)), .r 1 (some (.int .i64 x.to)), .r 1 (some (.int .i64 x.shard)), .r 1 (some (.int .i64 x.seq)), .r 1 (some (.int .i64 x.time)), .r 1 (some (.bool x.beat)), .r 1 (some (.slice (a2_0, c2_0).fst ((List.map eI x.c.when).length) c2_0)), .r 1 (some (.int .i64 x.c.place)), .r 1 (some (.slice (a2_1, c2_1).fst ((List.map eOp x.c.ops).length) c2_1))] 0 0] [0, 1, 4, 5, 21, 25] (E1 := fun _ => [(0, .val (.slice (some (⟨b1, off1, none⟩)) l.length c)), (1, .val (.slice (some (⟨b2, off2, none⟩)) l.length d)), (4, .val (.bool false)), (5, .val (.int .i64 i)), (21, .val (.agg #[.int .i64 x.fm, .int .i64 x.to, .int .i64 x.shard, .int .i64 x.seq, .int .i64 x.time, .bool x.beat, .slice (a1_0, c1_0).fst ((List.map eI x.c.when).length) c1_0, .int .i64 x.c.place, .slice (a1_1, c1_1).fst ((List.map eOp x.c.ops).length) c1_1])), (25, .val (.agg #[.int .i64 x.fm, .int .i64 x.to, .int .i64 x.shard, .int .i64 x.seq, .int .i64 x.time, .bool x.beat, .slice (a2_0, c2_0).fst ((List.map eI x.c.when).length) c2_0, .int .i64 x.c.place, .slice (a2_1, c2_1).fst ((List.map eOp x.c.ops).length) c2_1]))]) (h1 := fun _ => []) (p1 := fun _ => [(0 : Int) ≤ i, i < (↑l.length : Int), cs1[off1 + i.toNat * (9 : Nat)]? = some (Value.int IntKind.i64 x.fm), cs1[off1 + i.toNat * (9 : Nat) + (1 : Nat)]? = some (Value.int IntKind.i64 x.to), cs1[off1 + i.toNat * (9 : Nat) + (2 : Nat)]? = some (Value.int IntKind.i64 x.shard), cs1[off1 + i.toNat * (9 : Nat) + (3 : Nat)]? = some (Value.int IntKind.i64 x.seq), cs1[off1 + i.toNat * (9 : Nat) + (4 : Nat)]? = some (Value.int IntKind.i64 x.time), cs1[off1 + i.toNat * (9 : Nat) + (5 : Nat)]? = some (Value.bool x.beat), cs1[off1 + i.toNat * (9 : Nat) + (6 : Nat)]? = some (Value.slice (a1_0, c1_0).fst (List.map eI x.c.when).length (a1_0, c1_0).snd), cs1[off1 + i.toNat * (9 : Nat) + (7 : Nat)]? = some (Value.int IntKind.i64 x.c.place), cs1[off1 + i.toNat * (9 : Nat) + (8 : Nat)]? = some (Value.slice (a1_1, c1_1).fst (List.map eOp x.c.ops).length (a1_1, c1_1).snd), (0 : Int) ≤ i, i < (↑l.length : Int), cs2[off2 + i.toNat * (9 : Nat)]? = some (Value.int IntKind.i64 x.fm), cs2[off2 + i.toNat * (9 : Nat) + (1 : Nat)]? = some (Value.int IntKind.i64 x.to), cs2[off2 + i.toNat * (9 : Nat) + (2 : Nat)]? = some (Value.int IntKind.i64 x.shard), cs2[off2 + i.toNat * (9 : Nat) + (3 : Nat)]? = some (Value.int IntKind.i64 x.seq), cs2[off2 + i.toNat * (9 : Nat) + (4 : Nat)]? = some (Value.int IntKind.i64 x.time), cs2[off2 + i.toNat * (9 : Nat) + (5 : Nat)]? = some (Value.bool x.beat), cs2[off2 + i.toNat * (9 : Nat) + (6 : Nat)]? = some (Value.slice (a2_0, c2_0).fst (List.map eI x.c.when).length (a2_0, c2_0).snd), cs2[off2 + i.toNat * (9 : Nat) + (7 : Nat)]? = some (Value.int IntKind.i64 x.c.place), cs2[off2 + i.toNat * (9 : Nat) + (8 : Nat)]? = some (Value.slice (a2_1, c2_1).fst (List.map eOp x.c.ops).length (a2_1, c2_1).snd)]) (W1 := []) (fun _ => by kernel_rfl) (fun _ => ⟨hi0, hlt2, hrd1_0, hrd1_1, hrd1_2, hrd1_3, hrd1_4, hrd1_5, hrd1_6, hrd1_7, hrd1_8, hi0, hlt2, hrd2_0, hrd2_1, hrd2_2, hrd2_3, hrd2_4, hrd2_5, hrd2_6, hrd2_7, hrd2_8, trivial⟩) (fun _ => ?_)
    refine JR_callp [] 28 #[.agg #[.int .i64 x.fm, .int .i64 x.to, .int .i64 x.shard, .int .i64 x.seq, .int .i64 x.time, .bool x.beat, .slice (a1_0, c1_0).fst ((List.map eI x.c.when).length) c1_0, .int .i64 x.c.place, .slice (a1_1, c1_1).fst ((List.map eOp x.c.ops).length) c1_1], .agg #[.int .i64 x.fm, .int .i64 x.to, .int .i64 x.shard, .int .i64 x.seq, .int .i64 x.time, .bool x.beat, .slice (a2_0, c2_0).fst ((List.map eI x.c.when).length) c2_0, .int .i64 x.c.place, .slice (a2_1, c2_1).fst ((List.map eOp x.c.ops).length) c2_1]] (some 26) (by kernel_rfl) (fun w S hG => ?_)
    refine (sameMessage_eq (m := x) (hG.at 2 rfl) (hG.at 3 rfl) (hG.at 4 rfl) (hG.at 5 rfl) f1 f2 f3).mono ?_
    rintro e1 w1 hR
    refine ⟨_, _, _, hR, ?_⟩
    try simp only [List.cons_append, List.nil_append, List.append_nil]
    refine JR_run (id := 6) (rest := []) [.rd 9 [] 0 0] [0, 1, 4, 5, 6] (E1 := fun _ => [(0, .val (.slice (some (⟨b1, off1, none⟩)) l.length c)), (1, .val (.slice (some (⟨b2, off2, none⟩)) l.length d)), (4, .val (.bool false)), (5, .val (.int .i64 i)), (6, .val (.bool true))]) (h1 := fun _ => []) (p1 := fun _ => []) (W1 := []) (fun _ => by kernel_rfl) (fun _ => trivial) (fun _ => ?_)
    refine JR_end ?_
    refine J_seq ?_
    refine J_reg mixed [.rd 0 [] 0 0, .rd 1 [] 0 0] [] [0, 1, 4, 5, 6, 28] (E1 := fun _ => [(0, .val (.slice (some (⟨b1, off1, none⟩)) l.length c)), (1, .val (.slice (some (⟨b2, off2, none⟩)) l.length d)), (4, .val (.bool false)), (5, .val (.int .i64 i)), (6, .val (.bool true)), (28, .val (.bool false))]) (h1 := fun _ => []) (p1 := fun _ => []) (W1 := []) (by kernel_rfl) (fun _ => by kernel_rfl) (fun _ => trivial) (fun _ => ?_)
    refine J_cond_f (by kernel_rfl) (by kernel_rfl) ?_
    refine J_skip ?_
    refine J_eb ?_
    refine J_reg mixed [.rd 0 [] 0 0, .rd 1 [] 0 1, .rd 2 [] 0 0] [] [0, 1, 4, 5, 6] (E1 := fun _ => [(0, .val (.slice (some (⟨b1, off1, none⟩)) l.length c)), (1, .val (.slice (some (⟨b2, off2, none⟩)) l.length d)), (4, .val (.bool false)), (5, .val (.int .i64 (i + 1))), (6, .val (.bool true))]) (h1 := fun _ => []) (p1 := fun _ => [IntKind.i64.wrap (i + (1 : Int)) = i + (1 : Int)]) (W1 := []) (by kernel_rfl) (fun _ => by kernel_rfl) (fun _ => ⟨wrap_i64 (by omega) (by omega), trivial⟩) (fun _ => ?_)
    refine J_backx (i + 1) [0, 1, 4, 5] [] [] [0, 1] ?_ ?_ (by kernel_rfl) rfl rfl rfl
    · exact ⟨by omega, by omega⟩
    · omega
  · refine J_exit rfl ?_
    refine J_seq ?_
    refine J_reg mixed [.rd 0 [] 0 0] [] [4] (E1 := fun _ => [(4, .val (.bool true))]) (h1 := fun _ => []) (p1 := fun _ => []) (W1 := []) (by kernel_rfl) (fun _ => by kernel_rfl) (fun _ => trivial) (fun _ => ?_)
    refine J_return [[]] (.bool true) (by kernel_rfl) (fun a w s => ?_)
    exact s.ret (by simp) [] [] rfl rfl

theorem backWire {w0 : World} {S : Nat → Prop} {m : MsgT} {v1 v2 : Value} (h1 : v1.oneCell' = true) (h2 : v2.oneCell' = true) : Calls Tryd.prog 29 #[.agg #[.int .i64 m.fm, .int .i64 m.to, .int .i64 m.shard, .int .i64 m.seq, .int .i64 m.time, .bool m.beat, v1, .int .i64 m.c.place, v2]] w0 fun e w' =>
    Ret [] w0 S w' e (.agg #[.int .i64 m.fm, .int .i64 m.to, .int .i64 m.shard, .int .i64 m.seq, .int .i64 m.time, .bool m.beat, v1, .int .i64 m.c.place, v2]) [] [] := by
  refine ep29 (args := [.agg #[.int .i64 m.fm, .int .i64 m.to, .int .i64 m.shard, .int .i64 m.seq, .int .i64 m.time, .bool m.beat, v1, .int .i64 m.c.place, v2]]) (S := S) (G := []) (by kernel_rfl) (.nil _ _) ?_
  refine J_seq ?_
  refine J_reg mixed [.wr 0 [] 0, .wr 1 [] 0] [] [1, 2] (E1 := fun nu1 => [(1, .val (.pointer (some (⟨nu1 0, 0, none⟩)))), (2, .val (.pointer (some (⟨nu1 1, 0, none⟩))))]) (h1 := fun nu1 => [(nu1 0, .cells #[.int .i64 m.fm, .int .i64 m.to, .int .i64 m.shard, .int .i64 m.seq, .int .i64 m.time, .bool m.beat, v1, .int .i64 m.c.place, v2] 37 (0, 0)), (nu1 1, .cells #[.int .i64 0, .int .i64 0, .int .i64 0, .int .i64 0, .int .i64 0, .bool false, .slice none 0 0, .int .i64 0, .slice none 0 0] 55 (0, 0))]) (p1 := fun nu1 => []) (W1 := []) (by kernel_rfl) (fun _ => by kernel_rfl) (fun _ => trivial) (fun nu1 => ?_)
  refine J_seq ?_
  refine J_reg mixed [.rd 0 [] 0 0, .rd 1 [.o 0 none] 0 0, .rd 2 [] 0 0, .rd 3 [.o 0 none] 0 0, .rd 4 [] 0 0, .rd 5 [.o 0 none] 0 0, .rd 6 [] 0 0, .rd 7 [.o 0 none] 0 0, .rd 8 [] 0 0, .rd 9 [.o 0 none] 0 0, .rd 10 [] 0 0, .rd 11 [.o 0 none] 0 0, .rd 12 [] 0 0, .rd 13 [.o 0 none, .o 0 none, .o 0 none] 0 0, .rd 14 [] 0 0, .wr 15 [.o 1 none, .o 1 none, .o 1 none, .o 1 none, .o 1 none, .o 1 none, .o 1 (some (v1)), .o 1 none, .o 1 (some (v2))] 0] [(15, [1])] [2] (E1 := fun _ => [(2, .val (.pointer (some (⟨nu1 1, 0, none⟩))))]) (h1 := fun _ => [(nu1 0, .cells #[.int .i64 m.fm, .int .i64 m.to, .int .i64 m.shard, .int .i64 m.seq, .int .i64 m.time, .bool m.beat, v1, .int .i64 m.c.place, v2] 37 (0, 0)), (nu1 1, .cells #[.int .i64 m.fm, .int .i64 m.to, .int .i64 m.shard, .int .i64 m.seq, .int .i64 m.time, .bool m.beat, v1, .int .i64 m.c.place, v2] 55 (0, 0))]) (p1 := fun _ => [v1.oneCell' = true, (6 : Nat) < #[Value.int IntKind.i64 m.fm, Value.int IntKind.i64 m.to, Value.int IntKind.i64 m.shard, Value.int IntKind.i64 m.seq, Value.int IntKind.i64 m.time, Value.bool m.beat, Value.slice none (0 : Nat) (0 : Nat), Value.int IntKind.i64 (0 : Int), Value.slice none (0 : Nat) (0 : Nat)].size, v2.oneCell' = true, (8 : Nat) < #[Value.int IntKind.i64 m.fm, Value.int IntKind.i64 m.to, Value.int IntKind.i64 m.shard, Value.int IntKind.i64 m.seq, Value.int IntKind.i64 m.time, Value.bool m.beat, v1, Value.int IntKind.i64 m.c.place, Value.slice none (0 : Nat) (0 : Nat)].size]) (W1 := []) (by kernel_rfl) (fun _ => by kernel_rfl) (fun _ => ⟨h1, by simp; done, h2, by simp; done, trivial⟩) (fun _ => ?_)
  refine J_return [[.o 1 none, .o 1 none, .o 1 none, .o 1 none, .o 1 none, .o 1 none, .o 1 none, .o 1 none, .o 1 none]] (.agg #[.int .i64 m.fm, .int .i64 m.to, .int .i64 m.shard, .int .i64 m.seq, .int .i64 m.time, .bool m.beat, v1, .int .i64 m.c.place, v2]) (by kernel_rfl) (fun a w s => ?_)
  all_goals first | assumption | exact s.ret (by simp) [] [] rfl rfl

theorem wayError {w0 : World} {S : Nat → Prop} {fm to sh : Int} : Calls Tryd.prog 16 #[.int .i64 fm, .int .i64 to, .int .i64 sh] w0 fun e w' => Ret [] w0 S w' e (.int .i64 (wayErr fm to sh)) [] [] := by
  refine ep16 (args := [.int .i64 fm, .int .i64 to, .int .i64 sh]) (S := S) (G := []) (by kernel_rfl) (.nil _ _) ?_
  refine J_seq ?_
  refine J_reg mixed [.rd 0 [] 0 0] [] [0, 1, 2, 6] (E1 := fun _ => [(0, .val (.int .i64 fm)), (1, .val (.int .i64 to)), (2, .val (.int .i64 sh)), (6, .val (.int .i64 0))]) (h1 := fun _ => []) (p1 := fun _ => []) (W1 := []) (by kernel_rfl) (fun _ => by kernel_rfl) (fun _ => trivial) (fun _ => ?_)
  refine J_seq ?_
  refine J_seq ?_
  refine J_reg mixed [.rd 0 [] 0 0, .rd 1 [] 0 0, .rd 2 [] 0 0, .rd 3 [] 2 0, .rd 4 [] 2 0, .rd 5 [] 0 3, .rd 6 [] 0 0, .rd 7 [] 2 0, .rd 8 [] 2 0, .rd 9 [] 0 3, .rd 10 [] 0 0, .rd 11 [] 2 0, .rd 12 [] 2 0, .rd 13 [] 0 3, .rd 14 [] 0 0, .rd 15 [] 2 0, .rd 16 [] 2 0, .rd 17 [] 0 3, .rd 18 [] 0 0, .rd 19 [] 2 0, .rd 20 [] 2 0, .rd 21 [] 0 3] [] [0, 1, 6, 28] (E1 := fun _ => [(0, .val (.int .i64 fm)), (1, .val (.int .i64 to)), (6, .val (.int .i64 0)), (28, .val (.bool (decide (fm < 0) || decide (fm ≥ 6) || decide (to < 0) || decide (to ≥ 6) || decide (sh < 0) || decide (sh ≥ 6))))]) (h1 := fun _ => []) (p1 := fun _ => []) (W1 := []) (by kernel_rfl) (fun _ => by kernel_rfl) (fun _ => trivial) (fun _ => ?_)
  refine J_cond (t := decide (fm < 0) || decide (fm ≥ 6) || decide (to < 0) || decide (to ≥ 6) || decide (sh < 0) || decide (sh ≥ 6)) (by kernel_rfl) (by kernel_rfl) (fun hb => ?_) (fun hb => ?_)
  · have e1 : wayErr fm to sh = 2 := by rw [wayErr, if_pos (by simp at hb; omega)]
    refine J_seq ?_
    refine J_reg mixed [.rd 0 [] 0 0] [] [0, 1, 6] (E1 := fun _ => [(0, .val (.int .i64 fm)), (1, .val (.int .i64 to)), (6, .val (.int .i64 2))]) (h1 := fun _ => []) (p1 := fun _ => []) (W1 := []) (by kernel_rfl) (fun _ => by kernel_rfl) (fun _ => trivial) (fun _ => ?_)
    refine J_return [[]] (.int .i64 2) (by kernel_rfl) (fun a w s => ?_)
    rw [e1]
    exact s.ret (by simp) [] [] rfl rfl
  · have hn : ¬ (fm < 0 ∨ 6 ≤ fm ∨ to < 0 ∨ 6 ≤ to ∨ sh < 0 ∨ 6 ≤ sh) := by simp at hb; omega
    refine J_skip ?_
    refine J_seq ?_
    refine J_seq ?_
    refine J_reg mixed [.rd 0 [] 0 0, .rd 1 [] 0 0, .rd 2 [] 0 0] [] [6, 31] (E1 := fun _ => [(6, .val (.int .i64 0)), (31, .val (.bool (fm == to)))]) (h1 := fun _ => []) (p1 := fun _ => []) (W1 := []) (by kernel_rfl) (fun _ => by kernel_rfl) (fun _ => trivial) (fun _ => ?_)
    refine J_cond (t := fm == to) (by kernel_rfl) (by kernel_rfl) (fun hs => ?_) (fun hs => ?_)
    · have e1 : wayErr fm to sh = 3 := by rw [wayErr, if_neg hn, if_pos (by simpa using hs)]
      refine J_seq ?_
      refine J_reg mixed [.rd 0 [] 0 0] [] [6] (E1 := fun _ => [(6, .val (.int .i64 3))]) (h1 := fun _ => []) (p1 := fun _ => []) (W1 := []) (by kernel_rfl) (fun _ => by kernel_rfl) (fun _ => trivial) (fun _ => ?_)
      refine J_return [[]] (.int .i64 3) (by kernel_rfl) (fun a w s => ?_)
      rw [e1]
      exact s.ret (by simp) [] [] rfl rfl
    · have e1 : wayErr fm to sh = 0 := by rw [wayErr, if_neg hn, if_neg (by simpa using hs)]
      refine J_skip ?_
      refine J_seq ?_
      refine J_reg mixed [.rd 0 [] 0 0] [] [6] (E1 := fun _ => [(6, .val (.int .i64 0))]) (h1 := fun _ => []) (p1 := fun _ => []) (W1 := []) (by kernel_rfl) (fun _ => by kernel_rfl) (fun _ => trivial) (fun _ => ?_)
      refine J_return [[]] (.int .i64 0) (by kernel_rfl) (fun a w s => ?_)
      rw [e1]
      exact s.ret (by simp) [] [] rfl rfl

theorem fitMessages {w0 : World} {S : Nat → Prop} {a : Option Addr} {n c : Nat} {most : Int} {l : List MsgT} (ha : Rep w0 S (.slice a n c) (.sl 9 (l.map eMsg))) (hm : most ≤ 1000000) :
    Calls Tryd.prog 15 #[.slice a n c, .int .i64 most] w0 fun e w' => ∃ r, Ret [] w0 S w' e (.bool r) [] [] ∧ (r = true → l.length ≤ most ∧ ∀ x ∈ l, heavyC x.c = 0) := by
  have e1 := ha.slen
  rw [List.length_map] at e1
  subst e1
  refine ep15 (args := [.slice a l.length c, .int .i64 most]) (G := [(_, .sl 9 (l.map eMsg))]) (by kernel_rfl) (.cons ha (.nil _ _)) ?_
  refine J_seq ?_
  refine J_reg mixed [.rd 0 [] 0 0] [] [0, 1, 4] (E1 := fun _ => [(0, .val (.slice a l.length c)), (1, .val (.int .i64 most)), (4, .val (.bool false))]) (h1 := fun _ => []) (p1 := fun _ => []) (W1 := []) (by kernel_rfl) (fun _ => by kernel_rfl) (fun _ => trivial) (fun _ => ?_)
  refine J_seq ?_
  refine J_seq ?_
  refine J_reg mixed [.rd 0 [] 0 0, .rd 1 [] 0 0, .rd 2 [] 0 0, .rd 3 [] 0 0] [] [0, 4, 9] (E1 := fun _ => [(0, .val (.slice a l.length c)), (4, .val (.bool false)), (9, .val (.bool (decide ((↑l.length : Int) > most))))]) (h1 := fun _ => []) (p1 := fun _ => []) (W1 := []) (by kernel_rfl) (fun _ => by kernel_rfl) (fun _ => trivial) (fun _ => ?_)
  refine J_cond (t := decide ((↑l.length : Int) > most)) (by kernel_rfl) (by kernel_rfl) (fun hbig => ?_) (fun hbig => ?_)
  · refine J_seq ?_
    refine J_reg mixed [.rd 0 [] 0 0] [] [0, 4] (E1 := fun _ => [(0, .val (.slice a l.length c)), (4, .val (.bool false))]) (h1 := fun _ => []) (p1 := fun _ => []) (W1 := []) (by kernel_rfl) (fun _ => by kernel_rfl) (fun _ => trivial) (fun _ => ?_)
    refine J_return [[]] (.bool false) (by kernel_rfl) (fun a w s => ?_)
    exact ⟨_, s.ret (by simp) [] [] rfl rfl, by simp⟩
  · have hlm : l.length ≤ most := by simp at hbig; omega
    refine J_skip ?_
    refine J_seq ?_
    refine J_seq ?_
    refine J_reg mixed [.rd 0 [] 0 0] [] [0, 4, 5] (E1 := fun _ => [(0, .val (.slice a l.length c)), (4, .val (.bool false)), (5, .val (.int .i64 0))]) (h1 := fun _ => []) (p1 := fun _ => []) (W1 := []) (by kernel_rfl) (fun _ => by kernel_rfl) (fun _ => trivial) (fun _ => ?_)
    refine J_block ?_
    refine J_loopx (fun i : Int => [(0, .val (.slice a l.length c)), (4, .val (.bool false)), (5, .val (.int .i64 i))]) (fun i : Int => []) (fun i : Int => []) (fun i : Int => [(.slice a l.length c, (D.sl 9 (List.map eMsg l)))]) (fun i : Int => (l.length - i).toNat) (fun i : Int => (0 ≤ i ∧ i ≤ l.length ∧ ∀ j : Nat, j < i.toNat → ∀ x, l[j]? = some x → heavyC x.c = 0)) 0 [0, 4, 5] [] [] [0] ?_ (by kernel_rfl) rfl rfl rfl ?_
    · exact ⟨by omega, by omega, by simp⟩
    rintro i ⟨hi0, hi, hno⟩
    refine J_seq ?_
    refine J_seq ?_
    refine J_reg mixed [.rd 0 [] 0 0, .rd 1 [] 0 0, .rd 2 [] 0 0, .rd 3 [] 0 0] [] [0, 4, 5, 13] (E1 := fun _ => [(0, .val (.slice a l.length c)), (4, .val (.bool false)), (5, .val (.int .i64 i)), (13, .val (.bool (decide (i < (↑l.length : Int)))))]) (h1 := fun _ => []) (p1 := fun _ => []) (W1 := []) (by kernel_rfl) (fun _ => by kernel_rfl) (fun _ => trivial) (fun _ => ?_)
    refine J_cond (t := decide (i < (↑l.length : Int))) (by kernel_rfl) (by kernel_rfl) (fun hlt => ?_) (fun hlt => ?_)
    · have hlt2 : i < l.length := by simpa using hlt
      obtain ⟨x, hx⟩ : ∃ x, l[i.toNat]? = some x := ⟨_, List.getElem?_eq_getElem (by omega)⟩
      refine J_read2 0 rfl i.toNat (map_at hx) (by kernel_rfl) (fun b1 off1 cs1 ty1 fz1 a1_0 c1_0 a1_1 c1_1 ha1 hrd1 => ?_)
      cases ha1
      have hrd1_0 := rd0 (hrd1 0 _ rfl)
      have hrd1_1 := hrd1 1 _ rfl
      have hrd1_2 := hrd1 2 _ rfl
      have hrd1_3 := hrd1 3 _ rfl
      have hrd1_4 := hrd1 4 _ rfl
      have hrd1_5 := hrd1 5 _ rfl
      have hrd1_6 := hrd1 6 _ rfl
      have hrd1_7 := hrd1 7 _ rfl
      have hrd1_8 := hrd1 8 _ rfl
      try simp only [List.cons_append, List.nil_append, List.append_nil]
      refine J_skip ?_
      refine J_seq ?_
      refine J_block ?_
      refine J_seq ?_
      refine JR_begin mixed [(0, true), (1, true), (2, true), (3, true), (4, true), (5, false), (6, true)] [] (by kernel_rfl) (by kernel_rfl) ?_
      refine JR_run (id := 6) (rest := [(5, false), (6, true)]) [.rd 0 [] 0 0, .rd 1 [] 0 0, .rd 2 [] 0 2, .rd 3 [] 0 0, .rd 4 [.r 0 (some (.slice (a1_0, c1_0).fst ((List.map eI x.c.when).length) c1_0)), .r 0 (some (.int .i64 x.c.place)), .r 0 (some (.slice (a1_1, c1_1).fst ((List.map eOp x.c.ops).length) c1_1))] 0 0] [0, 4, 5, 20] (E1 := fun _ => [(0, .val (.slice (some (⟨b1, off1, none⟩)) l.length c)), (4, .val (.bool false)), (5, .val (.int .i64 i)), (20, .val (.agg #[.slice (a1_0, c1_0).fst ((List.map eI x.c.when).length) c1_0, .int .i64 x.c.place, .slice (a1_1, c1_1).fst ((List.map eOp x.c.ops).length) c1_1]))]) (h1 := fun _ => []) (p1 := fun _ => [(0 : Int) ≤ i, i < (↑l.length : Int), cs1[off1 + i.toNat * (9 : Nat) + (6 : Nat)]? = some (Value.slice (a1_0, c1_0).fst (List.map eI x.c.when).length (a1_0, c1_0).snd), cs1[off1 + i.toNat * (9 : Nat) + (7 : Nat)]? = some (Value.int IntKind.i64 x.c.place), cs1[off1 + i.toNat * (9 : Nat) + (8 : Nat)]? = some (Value.slice (a1_1, c1_1).fst (List.map eOp x.c.ops).length (a1_1, c1_1).snd)]) (W1 := []) (fun _ => by kernel_rfl) (fun _ => ⟨hi0, hlt2, hrd1_6, hrd1_7, hrd1_8, trivial⟩) (fun _ => ?_)
      refine JR_callp [] 23 #[.agg #[.slice (a1_0, c1_0).fst ((List.map eI x.c.when).length) c1_0, .int .i64 x.c.place, .slice (a1_1, c1_1).fst ((List.map eOp x.c.ops).length) c1_1]] (some 21) (by kernel_rfl) (fun w S hG => ?_)
      refine (heavyCommit (c := x.c) (hG.at 1 rfl) (hG.at 2 rfl)).mono ?_
      rintro e1 w1 hR
      refine ⟨_, _, _, hR, ?_⟩
      try simp only [List.cons_append, List.nil_append, List.append_nil]
      refine JR_run (id := 6) (rest := []) [.rd 6 [] 0 0] [0, 4, 5, 22] (E1 := fun _ => [(0, .val (.slice (some (⟨b1, off1, none⟩)) l.length c)), (4, .val (.bool false)), (5, .val (.int .i64 i)), (22, .val (.bool (decide (heavyC x.c > 0))))]) (h1 := fun _ => []) (p1 := fun _ => []) (W1 := []) (fun _ => by kernel_rfl) (fun _ => trivial) (fun _ => ?_)
      refine JR_end ?_
      refine J_cond (t := decide (heavyC x.c > 0)) (by kernel_rfl) (by kernel_rfl) (fun hh => ?_) (fun hh => ?_)
      · refine J_seq ?_
        refine J_reg mixed [.rd 0 [] 0 0] [] [0, 4, 5] (E1 := fun _ => [(0, .val (.slice (some (⟨b1, off1, none⟩)) l.length c)), (4, .val (.bool false)), (5, .val (.int .i64 i))]) (h1 := fun _ => []) (p1 := fun _ => []) (W1 := []) (by kernel_rfl) (fun _ => by kernel_rfl) (fun _ => trivial) (fun _ => ?_)
        refine J_return [[]] (.bool false) (by kernel_rfl) (fun a w s => ?_)
        exact ⟨_, s.ret (by simp) [] [] rfl rfl, by simp⟩
      · have h0 : heavyC x.c = 0 := by
          have : heavyC x.c = 0 ∨ heavyC x.c = 1 := by
            unfold heavyC
            split
            · exact .inr rfl
            · split
              · exact .inr rfl
              · exact .inl rfl
          simp at hh
          omega
        refine J_skip ?_
        refine J_eb ?_
        refine J_reg mixed [.rd 0 [] 0 0, .rd 1 [] 0 1, .rd 2 [] 0 0] [] [0, 4, 5] (E1 := fun _ => [(0, .val (.slice (some (⟨b1, off1, none⟩)) l.length c)), (4, .val (.bool false)), (5, .val (.int .i64 (i + 1)))]) (h1 := fun _ => []) (p1 := fun _ => [IntKind.i64.wrap (i + (1 : Int)) = i + (1 : Int)]) (W1 := []) (by kernel_rfl) (fun _ => by kernel_rfl) (fun _ => ⟨wrap_i64 (by omega) (by omega), trivial⟩) (fun _ => ?_)
        refine J_backx (i + 1) [0, 4, 5] [] [] [0] ?_ ?_ (by kernel_rfl) rfl rfl rfl
        · refine ⟨by omega, by omega, fun j hj x' hx' => ?_⟩
          by_cases hji : j = i.toNat
          · subst hji
            rw [hx] at hx'
            cases hx'
            exact h0
          · exact hno j (by omega) x' hx'
        · omega
    · refine J_exit rfl ?_
      refine J_seq ?_
      refine J_reg mixed [.rd 0 [] 0 0] [] [4] (E1 := fun _ => [(4, .val (.bool true))]) (h1 := fun _ => []) (p1 := fun _ => []) (W1 := []) (by kernel_rfl) (fun _ => by kernel_rfl) (fun _ => trivial) (fun _ => ?_)
      refine J_return [[]] (.bool true) (by kernel_rfl) (fun a w s => ?_)
      refine ⟨_, s.ret (by simp) [] [] rfl rfl, fun _ => ⟨hlm, fun x hx => ?_⟩⟩
      obtain ⟨j, hj⟩ := List.getElem?_of_mem hx
      have hjl := (List.getElem?_eq_some_iff.1 hj).1
      exact hno j (by simp at hlt; omega) x hj
end Go.Proofs.YtgelnbgjabpdbaaDoor
