/- versions.Own, stream.own: a commit, a message, in memory of its own. -/
import Derived.Test.YtgelnbgjabpdbaaDoorClone
namespace Go.Proofs.YtgelnbgjabpdbaaDoor
open Go Go.Sx

theorem vOwn {w0 : World} {S : Nat → Prop} {a1 a2 : Option Addr} {n1 c1 n2 c2 : Nat} {c : ComT} (h1 : Rep w0 S (.slice a1 n1 c1) (dInts c.when)) (h2 : Rep w0 S (.slice a2 n2 c2) (.sl 7 (c.ops.map eOp))) (hl1 : c.when.length ≤ 1000000) (hl2 : c.ops.length ≤ 1000000) (hl3 : ∀ o ∈ c.ops, o.dots.length ≤ 1000000) :
    Calls Tryd.prog 43 #[.agg #[.slice a1 n1 c1, .int .i64 c.place, .slice a2 n2 c2]] w0 fun e w' => ∃ u1 d1 u2 d2, Ret [] w0 S w' e (.agg #[.slice u1 n1 d1, .int .i64 c.place, .slice u2 n2 d2]) [] [(.slice u1 n1 d1, dInts c.when), (.slice u2 n2 d2, .sl 7 (c.ops.map eOp))] := by
  obtain rfl := rep_ints_len h1
  have e2 := h2.slen
  rw [List.length_map] at e2
  subst e2
  refine ep43 (args := [.agg #[.slice a1 c.when.length c1, .int .i64 c.place, .slice a2 c.ops.length c2]]) (G := [(_, dInts c.when), (_, .sl 7 (c.ops.map eOp))]) (by kernel_rfl) (.cons h1 (.cons h2 (.nil _ _))) ?_
  refine J_seq ?_
  refine J_reg mixed [.wr 0 [] 0, .wr 1 [] 0] [] [1, 2] (E1 := fun nu1 => [(1, .val (.pointer (some (⟨nu1 0, 0, none⟩)))), (2, .val (.pointer (some (⟨nu1 1, 0, none⟩))))]) (h1 := fun nu1 => [(nu1 0, .cells #[.slice a1 c.when.length c1, .int .i64 c.place, .slice a2 c.ops.length c2] 35 (0, 0)), (nu1 1, .cells #[.slice none 0 0, .int .i64 0, .slice none 0 0] 35 (0, 0))]) (p1 := fun nu1 => []) (W1 := []) (by kernel_rfl) (fun _ => by kernel_rfl) (fun _ => trivial) (fun nu1 => ?_)
  refine J_seq ?_
  refine JR_begin mixed [(0, true), (1, true), (2, false), (3, true), (4, false)] [] (by kernel_rfl) (by kernel_rfl) ?_
  refine JR_run (id := 1) (rest := [(2, false), (3, true), (4, false)]) [.rd 0 [] 0 0, .rd 1 [.o 0 none] 0 0] [1, 2, 5] (E1 := fun _ => [(1, .val (.pointer (some (⟨nu1 0, 0, none⟩)))), (2, .val (.pointer (some (⟨nu1 1, 0, none⟩)))), (5, .val (.slice a1 c.when.length c1))]) (h1 := fun _ => [(nu1 0, .cells #[.slice a1 c.when.length c1, .int .i64 c.place, .slice a2 c.ops.length c2] 35 (0, 0)), (nu1 1, .cells #[.slice none 0 0, .int .i64 0, .slice none 0 0] 35 (0, 0))]) (p1 := fun _ => []) (W1 := []) (fun _ => by kernel_rfl) (fun _ => trivial) (fun _ => ?_)
  refine JR_callp [] 54 #[.slice a1 c.when.length c1] (some 6) (by kernel_rfl) (fun w S hG => ?_)
  refine (cloneInts (hG.at 0 rfl) hl1).mono ?_
  rintro e1 w1 ⟨u1, d1, hR⟩
  refine ⟨_, _, _, hR, ?_⟩
  try simp only [List.cons_append, List.nil_append, List.append_nil]
  refine JR_run (id := 1) (rest := []) [.rd 3 [] 0 0, .wr 4 [.o 0 none] 0] [1, 2] (E1 := fun _ => [(1, .val (.pointer (some (⟨nu1 0, 0, none⟩)))), (2, .val (.pointer (some (⟨nu1 1, 0, none⟩))))]) (h1 := fun _ => [(nu1 0, .cells #[.slice u1 c.when.length d1, .int .i64 c.place, .slice a2 c.ops.length c2] 35 (0, 0)), (nu1 1, .cells #[.slice none 0 0, .int .i64 0, .slice none 0 0] 35 (0, 0))]) (p1 := fun _ => []) (W1 := []) (fun _ => by kernel_rfl) (fun _ => trivial) (fun _ => ?_)
  refine JR_end ?_
  refine J_seq ?_
  refine JR_begin mixed [(0, true), (1, true), (2, false), (3, true), (4, false)] [] (by kernel_rfl) (by kernel_rfl) ?_
  refine JR_run (id := 2) (rest := [(2, false), (3, true), (4, false)]) [.rd 0 [] 0 0, .rd 1 [.o 0 none] 0 0] [1, 2, 9] (E1 := fun _ => [(1, .val (.pointer (some (⟨nu1 0, 0, none⟩)))), (2, .val (.pointer (some (⟨nu1 1, 0, none⟩)))), (9, .val (.slice a2 c.ops.length c2))]) (h1 := fun _ => [(nu1 0, .cells #[.slice u1 c.when.length d1, .int .i64 c.place, .slice a2 c.ops.length c2] 35 (0, 0)), (nu1 1, .cells #[.slice none 0 0, .int .i64 0, .slice none 0 0] 35 (0, 0))]) (p1 := fun _ => []) (W1 := []) (fun _ => by kernel_rfl) (fun _ => trivial) (fun _ => ?_)
  refine JR_callp [] 55 #[.slice a2 c.ops.length c2] (some 10) (by kernel_rfl) (fun w S hG => ?_)
  refine (cloneOps (hG.at 1 rfl) hl2).mono ?_
  rintro e3 w3 ⟨u2, d2, hR⟩
  refine ⟨_, _, _, hR, ?_⟩
  try simp only [List.cons_append, List.nil_append, List.append_nil]
  refine JR_run (id := 2) (rest := []) [.rd 3 [] 0 0, .wr 4 [.o 0 none] 0] [1, 2] (E1 := fun _ => [(1, .val (.pointer (some (⟨nu1 0, 0, none⟩)))), (2, .val (.pointer (some (⟨nu1 1, 0, none⟩))))]) (h1 := fun _ => [(nu1 0, .cells #[.slice u1 c.when.length d1, .int .i64 c.place, .slice u2 c.ops.length d2] 35 (0, 0)), (nu1 1, .cells #[.slice none 0 0, .int .i64 0, .slice none 0 0] 35 (0, 0))]) (p1 := fun _ => []) (W1 := []) (fun _ => by kernel_rfl) (fun _ => trivial) (fun _ => ?_)
  refine JR_end ?_
  refine J_seq ?_
  refine J_seq ?_
  refine J_reg mixed [.rd 0 [] 0 0, .rd 1 [.o 0 none] 0 0, .rd 2 [] 0 0, .rd 3 [] 0 0] [] [1, 2, 14, 15] (E1 := fun _ => [(1, .val (.pointer (some (⟨nu1 0, 0, none⟩)))), (2, .val (.pointer (some (⟨nu1 1, 0, none⟩)))), (14, .val (.int .i64 (↑c.ops.length : Int))), (15, .val (.int .i64 0))]) (h1 := fun _ => [(nu1 0, .cells #[.slice u1 c.when.length d1, .int .i64 c.place, .slice u2 c.ops.length d2] 35 (0, 0)), (nu1 1, .cells #[.slice none 0 0, .int .i64 0, .slice none 0 0] 35 (0, 0))]) (p1 := fun _ => []) (W1 := []) (by kernel_rfl) (fun _ => by kernel_rfl) (fun _ => trivial) (fun _ => ?_)
  refine J_block ?_
  refine J_loopx (fun i : Int => [(1, .val (.pointer (some (⟨nu1 0, 0, none⟩)))), (2, .val (.pointer (some (⟨nu1 1, 0, none⟩)))), (14, .val (.int .i64 (↑c.ops.length : Int))), (15, .val (.int .i64 i))]) (fun i : Int => [(nu1 0, .cells #[.slice u1 c.when.length d1, .int .i64 c.place, .slice u2 c.ops.length d2] 35 (0, 0)), (nu1 1, .cells #[.slice none 0 0, .int .i64 0, .slice none 0 0] 35 (0, 0))]) (fun i : Int => [cAcc (.slice u1 c.when.length d1) 3 1 (List.map eI c.when), cAcc (.slice u2 c.ops.length d2) 99 7 (List.map eOp c.ops)]) (fun i : Int => [(.slice a1 c.when.length c1, (dInts c.when)), (.slice a2 c.ops.length c2, (D.sl 7 (List.map eOp c.ops)))]) (fun i : Int => (c.ops.length - i).toNat) (fun i : Int => (0 ≤ i ∧ i ≤ c.ops.length)) 0 [1, 2, 14, 15] [0, 1] [0, 1] [0, 1] ?_ (by kernel_rfl) rfl rfl rfl ?_
  · exact ⟨by omega, by omega⟩
  rintro i ⟨hi0, hi⟩
  refine J_seq ?_
  refine J_reg mixed [.rd 0 [] 0 0] [] [1, 2, 14, 15, 16] (E1 := fun _ => [(1, .val (.pointer (some (⟨nu1 0, 0, none⟩)))), (2, .val (.pointer (some (⟨nu1 1, 0, none⟩)))), (14, .val (.int .i64 (↑c.ops.length : Int))), (15, .val (.int .i64 i)), (16, .val (.bool (decide (i < (↑c.ops.length : Int)))))]) (h1 := fun _ => [(nu1 0, .cells #[.slice u1 c.when.length d1, .int .i64 c.place, .slice u2 c.ops.length d2] 35 (0, 0)), (nu1 1, .cells #[.slice none 0 0, .int .i64 0, .slice none 0 0] 35 (0, 0))]) (p1 := fun _ => []) (W1 := []) (by kernel_rfl) (fun _ => by kernel_rfl) (fun _ => trivial) (fun _ => ?_)
  refine J_seq ?_
  refine J_cond (t := decide (i < (↑c.ops.length : Int))) (by kernel_rfl) (by kernel_rfl) (fun hlt => ?_) (fun hlt => ?_)
  · have hlt2 : i < c.ops.length := by simpa using hlt
    obtain ⟨o, ho⟩ : ∃ o, c.ops[i.toNat]? = some o := ⟨_, List.getElem?_eq_getElem (by omega)⟩
    refine J_openacc 1 rfl (by intro h0; rw [List.map_eq_nil_iff] at h0; rw [h0] at ho; simp at ho) fun g cur xs hu _ _ hrow => ?_
    subst hu
    refine J_stpx (stp_readrows 1 rfl i.toNat (map_at ho)) fun ls hls => ?_
    obtain ⟨hls1, hls2⟩ := hls
    obtain ⟨⟨da, dc⟩, rfl⟩ : ∃ l0, ls = [l0] := List.length_eq_one_iff.1 hls1
    have hcur : cur[0 + i.toNat * 7 + 6]? = some (.slice da (o.dots.map eDot).length dc) := by rw [Nat.zero_add]; exact hrow.atx (hls2 6 _ rfl)
    have hsz : 0 + i.toNat * 7 + 6 + 1 ≤ cur.size := (Array.getElem?_eq_some_iff.1 hcur).1
    try simp only [List.cons_append, List.nil_append, List.append_nil]
    refine J_skip ?_
    try simp only [List.cons_append, List.nil_append, List.append_nil]
    refine J_seq ?_
    try simp only [List.cons_append, List.nil_append, List.append_nil]
    refine J_block ?_
    try simp only [List.cons_append, List.nil_append, List.append_nil]
    refine J_seq ?_
    try simp only [List.cons_append, List.nil_append, List.append_nil]
    refine J_reg mixed [.rd 0 [] 0 0, .rd 1 [] 0 0] [] [1, 2, 3, 14, 15] (E1 := fun _ => [(1, .val (.pointer (some (⟨nu1 0, 0, none⟩)))), (2, .val (.pointer (some (⟨nu1 1, 0, none⟩)))), (3, .val (.int .i64 i)), (14, .val (.int .i64 (↑c.ops.length : Int))), (15, .val (.int .i64 i))]) (h1 := fun _ => [(nu1 0, .cells #[.slice u1 c.when.length d1, .int .i64 c.place, .slice (some (⟨g, 0, none⟩)) c.ops.length d2] 35 (0, 0)), (nu1 1, .cells #[.slice none 0 0, .int .i64 0, .slice none 0 0] 35 (0, 0)), (g, .cells cur 99 (0, 0))]) (p1 := fun _ => []) (W1 := []) (by kernel_rfl) (fun _ => by kernel_rfl) (fun _ => trivial) (fun _ => ?_)
    try simp only [List.cons_append, List.nil_append, List.append_nil]
    refine JR_begin mixed [(0, true), (1, true), (2, true), (3, true), (4, true), (5, true), (6, true), (7, true), (8, true), (9, false), (10, true), (11, true), (12, false)] [(12, [2])] (by kernel_rfl) (by kernel_rfl) ?_
    refine JR_run (id := 6) (rest := [(9, false), (10, true), (11, true), (12, false)]) [.rd 0 [] 0 0, .rd 1 [.o 0 none] 0 0, .rd 2 [] 0 0, .rd 3 [] 0 0, .rd 4 [.o 0 none] 0 0, .rd 5 [] 0 0, .rd 6 [] 0 2, .rd 7 [] 0 0, .rd 8 [.o 2 (some (.slice da ((List.map eDot o.dots).length) dc))] 0 0] [1, 2, 3, 14, 15, 19, 20, 26] (E1 := fun _ => [(1, .val (.pointer (some (⟨nu1 0, 0, none⟩)))), (2, .val (.pointer (some (⟨nu1 1, 0, none⟩)))), (3, .val (.int .i64 i)), (14, .val (.int .i64 (↑c.ops.length : Int))), (15, .val (.int .i64 i)), (19, .val (.slice (some (⟨g, 0, none⟩)) c.ops.length d2)), (20, .val (.int .i64 i)), (26, .val (.slice da ((List.map eDot o.dots).length) dc))]) (h1 := fun _ => [(nu1 0, .cells #[.slice u1 c.when.length d1, .int .i64 c.place, .slice (some (⟨g, 0, none⟩)) c.ops.length d2] 35 (0, 0)), (nu1 1, .cells #[.slice none 0 0, .int .i64 0, .slice none 0 0] 35 (0, 0)), (g, .cells cur 99 (0, 0))]) (p1 := fun _ => [(0 : Int) ≤ i, i < (↑c.ops.length : Int), cur[(0 : Nat) + i.toNat * (7 : Nat) + (6 : Nat)]? = some (Value.slice da (List.map eDot o.dots).length dc)]) (W1 := [(12, [2])]) (fun _ => by kernel_rfl) (fun _ => ⟨hi0, hlt2, hcur, trivial⟩) (fun _ => ?_)
    refine JR_callp [] 56 #[.slice da ((List.map eDot o.dots).length) dc] (some 27) (by kernel_rfl) (fun w S hG => ?_)
    refine (cloneDots (xs := o.dots) (hG.at 2 rfl) (hl3 o (List.mem_of_getElem? ho))).mono ?_
    rintro e4 w4 ⟨u3, d3, hR⟩
    refine ⟨_, _, _, hR, ?_⟩
    try simp only [List.cons_append, List.nil_append, List.append_nil]
    refine JR_run (id := 6) (rest := []) [.rd 10 [] 0 2, .rd 11 [] 0 0, .wr 12 [.o 2 (some (.slice u3 ((List.map eDot o.dots).length) d3))] 0] [1, 2, 3, 14, 15] (E1 := fun _ => [(1, .val (.pointer (some (⟨nu1 0, 0, none⟩)))), (2, .val (.pointer (some (⟨nu1 1, 0, none⟩)))), (3, .val (.int .i64 i)), (14, .val (.int .i64 (↑c.ops.length : Int))), (15, .val (.int .i64 i))]) (h1 := fun _ => [(nu1 0, .cells #[.slice u1 c.when.length d1, .int .i64 c.place, .slice (some (⟨g, 0, none⟩)) c.ops.length d2] 35 (0, 0)), (nu1 1, .cells #[.slice none 0 0, .int .i64 0, .slice none 0 0] 35 (0, 0)), (g, .cells (cur.setIfInBounds (0 + i.toNat * 7 + 6) (Value.slice u3 (List.map eDot o.dots).length d3)) 99 (0, 0))]) (p1 := fun _ => [(0 : Int) ≤ i, i < (↑c.ops.length : Int), (Value.slice u3 (List.map eDot o.dots).length d3).oneCell' = true, (0 : Nat) + i.toNat * (7 : Nat) + (6 : Nat) < cur.size]) (W1 := []) (fun _ => by kernel_rfl) (fun _ => ⟨hi0, hlt2, ?_, by omega, trivial⟩) (fun _ => ?_)
    · rfl
    try simp only [List.cons_append, List.nil_append, List.append_nil]
    refine JR_end ?_
    try simp only [List.cons_append, List.nil_append, List.append_nil]
    refine J_eb ?_
    try simp only [List.cons_append, List.nil_append, List.append_nil]
    refine J_reg mixed [.rd 0 [] 0 1, .rd 1 [] 0 0] [] [1, 2, 3, 14, 15] (E1 := fun _ => [(1, .val (.pointer (some (⟨nu1 0, 0, none⟩)))), (2, .val (.pointer (some (⟨nu1 1, 0, none⟩)))), (3, .val (.int .i64 i)), (14, .val (.int .i64 (↑c.ops.length : Int))), (15, .val (.int .i64 (i + 1)))]) (h1 := fun _ => [(nu1 0, .cells #[.slice u1 c.when.length d1, .int .i64 c.place, .slice (some (⟨g, 0, none⟩)) c.ops.length d2] 35 (0, 0)), (nu1 1, .cells #[.slice none 0 0, .int .i64 0, .slice none 0 0] 35 (0, 0)), (g, .cells (cur.setIfInBounds (0 + i.toNat * 7 + 6) (Value.slice u3 (List.map eDot o.dots).length d3)) 99 (0, 0))]) (p1 := fun _ => [IntKind.i64.wrap (i + (1 : Int)) = i + (1 : Int)]) (W1 := []) (by kernel_rfl) (fun _ => by kernel_rfl) (fun _ => ⟨wrap_i64 (by omega) (by omega), trivial⟩) (fun _ => ?_)
    try simp only [List.cons_append, List.nil_append, List.append_nil]
    refine J_stp (stp_freeze 2 rfl) ?_
    have hsame : (List.map eOp c.ops).set i.toNat ((eOp o).set 6 (.sl 3 (o.dots.map eDot))) = List.map eOp c.ops := set_same (map_at ho)
    refine J_stp (stp_setrows 1 3 i.toNat 6 rfl hrow.len (map_at ho) (by decide) rfl) ?_
    rw [hsame]
    refine J_hide 2 rfl ?_
    have hrow2 : Row (cur.setIfInBounds (0 + i.toNat * 7 + 6) (.slice u3 (o.dots.map eDot).length d3)) d2 (c.ops.map eOp).length 7 (xs.set (i.toNat * 7 + 6) (.slice u3 (o.dots.map eDot).length d3)) := by rw [Nat.zero_add]; exact hrow.set1 _ _
    refine J_stp (stp_closeacc 2 1 rfl rfl hrow2 (by decide)) ?_
    rw [show (List.map eOp c.ops).length = c.ops.length from List.length_map ..]
    refine J_backx (i + 1) [1, 2, 14, 15] [0, 1] [0, 1] [0, 1] ?_ ?_ (by kernel_rfl) rfl rfl rfl
    · exact ⟨by omega, by omega⟩
    · omega
  · refine J_exit rfl ?_
    refine J_seq ?_
    refine J_reg mixed [.rd 0 [.o 0 none, .o 0 none, .o 0 none] 0 0, .wr 1 [.o 1 none, .o 1 none, .o 1 none] 0] [(1, [1])] [2] (E1 := fun _ => [(2, .val (.pointer (some (⟨nu1 1, 0, none⟩))))]) (h1 := fun _ => [(nu1 0, .cells #[.slice u1 c.when.length d1, .int .i64 c.place, .slice u2 c.ops.length d2] 35 (0, 0)), (nu1 1, .cells #[.slice u1 c.when.length d1, .int .i64 c.place, .slice u2 c.ops.length d2] 35 (0, 0))]) (p1 := fun _ => []) (W1 := []) (by kernel_rfl) (fun _ => by kernel_rfl) (fun _ => trivial) (fun _ => ?_)
    refine J_return [[.o 1 none, .o 1 none, .o 1 none]] (.agg #[.slice u1 c.when.length d1, .int .i64 c.place, .slice u2 c.ops.length d2]) (by kernel_rfl) (fun a w s => ?_)
    have s2 := (s.stp (stp_freeze 0 rfl)).stp (stp_freeze 0 rfl)
    exact ⟨_, _, _, _, s2.ret (by simp) [] [2, 3] rfl rfl⟩

theorem sOwn {w0 : World} {S : Nat → Prop} {a1 a2 : Option Addr} {n1 c1 n2 c2 : Nat} {m : MsgT} (h1 : Rep w0 S (.slice a1 n1 c1) (dInts m.c.when)) (h2 : Rep w0 S (.slice a2 n2 c2) (.sl 7 (m.c.ops.map eOp))) (hl1 : m.c.when.length ≤ 1000000) (hl2 : m.c.ops.length ≤ 1000000) (hl3 : ∀ o ∈ m.c.ops, o.dots.length ≤ 1000000) :
    Calls Tryd.prog 34 #[.agg #[.int .i64 m.fm, .int .i64 m.to, .int .i64 m.shard, .int .i64 m.seq, .int .i64 m.time, .bool m.beat, .slice a1 n1 c1, .int .i64 m.c.place, .slice a2 n2 c2]] w0 fun e w' => ∃ u1 d1 u2 d2,
      Ret [] w0 S w' e (.agg #[.int .i64 m.fm, .int .i64 m.to, .int .i64 m.shard, .int .i64 m.seq, .int .i64 m.time, .bool m.beat, .slice u1 n1 d1, .int .i64 m.c.place, .slice u2 n2 d2]) [] [(.slice u1 n1 d1, dInts m.c.when), (.slice u2 n2 d2, .sl 7 (m.c.ops.map eOp))] := by
  refine ep34 (args := [.agg #[.int .i64 m.fm, .int .i64 m.to, .int .i64 m.shard, .int .i64 m.seq, .int .i64 m.time, .bool m.beat, .slice a1 n1 c1, .int .i64 m.c.place, .slice a2 n2 c2]]) (G := [(_, dInts m.c.when), (_, .sl 7 (m.c.ops.map eOp))]) (by kernel_rfl) (.cons h1 (.cons h2 (.nil _ _))) ?_
  refine J_seq ?_
  refine J_reg mixed [.wr 0 [] 0, .wr 1 [] 0] [] [1, 2] (E1 := fun nu1 => [(1, .val (.pointer (some (⟨nu1 0, 0, none⟩)))), (2, .val (.pointer (some (⟨nu1 1, 0, none⟩))))]) (h1 := fun nu1 => [(nu1 0, .cells #[.int .i64 m.fm, .int .i64 m.to, .int .i64 m.shard, .int .i64 m.seq, .int .i64 m.time, .bool m.beat, .slice a1 n1 c1, .int .i64 m.c.place, .slice a2 n2 c2] 37 (0, 0)), (nu1 1, .cells #[.int .i64 0, .int .i64 0, .int .i64 0, .int .i64 0, .int .i64 0, .bool false, .slice none 0 0, .int .i64 0, .slice none 0 0] 37 (0, 0))]) (p1 := fun nu1 => []) (W1 := []) (by kernel_rfl) (fun _ => by kernel_rfl) (fun _ => trivial) (fun nu1 => ?_)
  refine J_seq ?_
  refine JR_begin mixed [(0, true), (1, true), (2, false), (3, true), (4, false)] [] (by kernel_rfl) (by kernel_rfl) ?_
  refine JR_run (id := 1) (rest := [(2, false), (3, true), (4, false)]) [.rd 0 [] 0 0, .rd 1 [.o 0 none, .o 0 none, .o 0 none] 0 0] [1, 2, 4] (E1 := fun _ => [(1, .val (.pointer (some (⟨nu1 0, 0, none⟩)))), (2, .val (.pointer (some (⟨nu1 1, 0, none⟩)))), (4, .val (.agg #[.slice a1 n1 c1, .int .i64 m.c.place, .slice a2 n2 c2]))]) (h1 := fun _ => [(nu1 0, .cells #[.int .i64 m.fm, .int .i64 m.to, .int .i64 m.shard, .int .i64 m.seq, .int .i64 m.time, .bool m.beat, .slice a1 n1 c1, .int .i64 m.c.place, .slice a2 n2 c2] 37 (0, 0)), (nu1 1, .cells #[.int .i64 0, .int .i64 0, .int .i64 0, .int .i64 0, .int .i64 0, .bool false, .slice none 0 0, .int .i64 0, .slice none 0 0] 37 (0, 0))]) (p1 := fun _ => []) (W1 := []) (fun _ => by kernel_rfl) (fun _ => trivial) (fun _ => ?_)
  refine JR_callp [] 43 #[.agg #[.slice a1 n1 c1, .int .i64 m.c.place, .slice a2 n2 c2]] (some 5) (by kernel_rfl) (fun w S hG => ?_)
  refine (vOwn (c := m.c) (hG.at 0 rfl) (hG.at 1 rfl) hl1 hl2 hl3).mono ?_
  rintro e1 w1 ⟨u1, d1, u2, d2, hR⟩
  refine ⟨_, _, _, hR, ?_⟩
  try simp only [List.cons_append, List.nil_append, List.append_nil]
  refine JR_run (id := 1) (rest := []) [.rd 3 [] 0 0, .wr 4 [.o 0 none, .o 0 none, .o 0 none] 0] [1, 2] (E1 := fun _ => [(1, .val (.pointer (some (⟨nu1 0, 0, none⟩)))), (2, .val (.pointer (some (⟨nu1 1, 0, none⟩))))]) (h1 := fun _ => [(nu1 0, .cells #[.int .i64 m.fm, .int .i64 m.to, .int .i64 m.shard, .int .i64 m.seq, .int .i64 m.time, .bool m.beat, .slice u1 n1 d1, .int .i64 m.c.place, .slice u2 n2 d2] 37 (0, 0)), (nu1 1, .cells #[.int .i64 0, .int .i64 0, .int .i64 0, .int .i64 0, .int .i64 0, .bool false, .slice none 0 0, .int .i64 0, .slice none 0 0] 37 (0, 0))]) (p1 := fun _ => []) (W1 := []) (fun _ => by kernel_rfl) (fun _ => trivial) (fun _ => ?_)
  refine JR_end ?_
  refine J_seq ?_
  refine J_reg mixed [.rd 0 [.o 0 none, .o 0 none, .o 0 none, .o 0 none, .o 0 none, .o 0 none, .o 0 none, .o 0 none, .o 0 none] 0 0, .wr 1 [.o 1 none, .o 1 none, .o 1 none, .o 1 none, .o 1 none, .o 1 none, .o 1 none, .o 1 none, .o 1 none] 0] [(1, [1])] [2] (E1 := fun _ => [(2, .val (.pointer (some (⟨nu1 1, 0, none⟩))))]) (h1 := fun _ => [(nu1 0, .cells #[.int .i64 m.fm, .int .i64 m.to, .int .i64 m.shard, .int .i64 m.seq, .int .i64 m.time, .bool m.beat, .slice u1 n1 d1, .int .i64 m.c.place, .slice u2 n2 d2] 37 (0, 0)), (nu1 1, .cells #[.int .i64 m.fm, .int .i64 m.to, .int .i64 m.shard, .int .i64 m.seq, .int .i64 m.time, .bool m.beat, .slice u1 n1 d1, .int .i64 m.c.place, .slice u2 n2 d2] 37 (0, 0))]) (p1 := fun _ => []) (W1 := []) (by kernel_rfl) (fun _ => by kernel_rfl) (fun _ => trivial) (fun _ => ?_)
  refine J_return [[.o 1 none, .o 1 none, .o 1 none, .o 1 none, .o 1 none, .o 1 none, .o 1 none, .o 1 none, .o 1 none]] (.agg #[.int .i64 m.fm, .int .i64 m.to, .int .i64 m.shard, .int .i64 m.seq, .int .i64 m.time, .bool m.beat, .slice u1 n1 d1, .int .i64 m.c.place, .slice u2 n2 d2]) (by kernel_rfl) (fun a w s => ?_)
  exact ⟨u1, d1, u2, d2, s.ret (by simp) [] [2, 3] rfl rfl⟩
end Go.Proofs.YtgelnbgjabpdbaaDoor
