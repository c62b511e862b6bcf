/- Part 8 of the texts of a claim: DocW Same Msg EqDot Msg2. -/
import Derived.Test.YtonhcoeneahpaaaDoorTa7
section
namespace Go.Proofs.YtonhcoeneahpaaaDoor
open Go Go.Sx
set_option maxHeartbeats 4000000 in
theorem sumRB {w : World} {S : Nat → Prop} {s0 : ByteArray} (h9 : s0.size ≤ 100000) : Calls Tryd.prog 14 #[.string s0] w fun e w' => Ret [] w S w' e (.int .i64 (sumN s0.data.toList)) [] [] :=
  (crcRW (S := S) h9).mono fun e w' h => by rw [crcR_sum] at h; exact h
theorem baSize (l : List UInt8) : (ByteArray.mk l.toArray).size = l.length := by
  show l.toArray.size = l.length
  simp
set_option maxHeartbeats 4000000 in
theorem wireRW {w0 : World} {S0 : Nat → Prop} {m : MsgT} {a1 a2 : Option Addr} {n1 c1 n2 c2 : Nat} (h1 : Rep w0 S0 (.slice a1 n1 c1) (dInts m.c.when)) (h2 : Rep w0 S0 (.slice a2 n2 c2) (.sl 7 (m.c.ops.map eOp))) (hb : (encMsg m).length ≤ 90000) :
    Calls Tryd.prog 9 #[.agg #[.int .i64 m.fm, .int .i64 m.to, .int .i64 m.shard, .int .i64 m.seq, .int .i64 m.time, .bool m.beat, .slice a1 n1 c1, .int .i64 m.c.place, .slice a2 n2 c2]] w0 fun e w' =>
      (5996 < (encMsg m).length ∧ Ret [] w0 S0 w' e (.tuple #[.string ⟨#[]⟩, .int .i64 7]) [] []) ∨
      ((encMsg m).length ≤ 5996 ∧ Ret [] w0 S0 w' e (.tuple #[.string ⟨(encMsg m ++ enc4 (sumN (encMsg m))).toArray⟩, .int .i64 0]) [] []) := by
  obtain rfl := rep_ints_len h1
  have e2 := h2.slen
  rw [List.length_map] at e2
  subst e2
  have hbh : (headM m).length + (m.c.ops.flatMap encOp).length ≤ 90000 := by rw [← List.length_append, ← encMsg_head]; exact hb
  have hbo : ∀ o ∈ m.c.ops, (headO o).length + (o.dots.flatMap encDot).length ≤ 90000 := fun o ho => by
    have := flat_mem_le encOp ho
    rw [encOp_head, List.length_append] at this
    omega
  have hops : m.c.ops.length ≤ 90000 := by
    have := flat_length (en := encOp) (least := 1) (fun x => by have := encOp_length x; omega) m.c.ops
    omega
  have hh1 : (headM m).length = 72 + 8 * m.c.when.length := by
    simp only [headM, List.length_append, flat8, encF, enc8_length, List.length_cons, List.length_nil]
    omega
  refine ep9 (args := [.agg #[.int .i64 m.fm, .int .i64 m.to, .int .i64 m.shard, .int .i64 m.seq, .int .i64 m.time, .bool m.beat, .slice a1 m.c.when.length c1, .int .i64 m.c.place, .slice a2 m.c.ops.length c2]]) (G := [(_, dInts m.c.when), (_, .sl 7 (m.c.ops.map eOp))]) (by kernel_rfl) (.cons h1 (.cons h2 (.nil _ _))) ?_
  refine J_seq ?_
  refine Zm [.wr 0 [] 0, .rd 1 [] 0 0, .rd 2 [] 0 0] [] [0] (fun nu1 => [(1, .val (.pointer (some (⟨nu1 0, 0, none⟩)))), (2, .val (.string (ByteArray.mk #[]))), (3, .val (.int .i64 0))]) (fun nu1 => [(nu1 0, .cells #[.int .i64 m.fm, .int .i64 m.to, .int .i64 m.shard, .int .i64 m.seq, .int .i64 m.time, .bool m.beat, .slice a1 m.c.when.length c1, .int .i64 m.c.place, .slice a2 m.c.ops.length c2] 27 (0, 0))]) (fun nu1 => ?_)
  refine J_seq ?_
  refine jT [(0, true), (1, true), (3, true), (4, true), (7, true), (8, true), (11, true), (12, true), (15, true), (16, true), (19, true), (20, true), (23, true), (24, true), (25, true), (26, true), (2, false), (5, false), (6, true), (9, false), (10, true), (13, false), (14, true), (17, false), (18, true), (21, false), (22, true), (27, false), (28, true), (29, true)] [] ?_
  refine Ya (id := 1) (rest := [(2, false), (5, false), (6, true), (9, false), (10, true), (13, false), (14, true), (17, false), (18, true), (21, false), (22, true), (27, false), (28, true), (29, true)]) [.rd 0 [] 0 0, .rd 1 [.o 0 none] 0 0, .rd 3 [] 0 0, .rd 4 [.o 0 none] 0 0, .rd 7 [] 0 0, .rd 8 [.o 0 none] 0 0, .rd 11 [] 0 0, .rd 12 [.o 0 none] 0 0, .rd 15 [] 0 0, .rd 16 [.o 0 none] 0 0, .rd 19 [] 0 0, .rd 20 [.o 0 none] 0 0, .rd 23 [] 0 0, .rd 24 [] 0 0, .rd 25 [.o 0 none] 0 0, .rd 26 [] 0 0] [] [(11, .val (.int .i64 m.fm)), (14, .val (.int .i64 m.to)), (18, .val (.int .i64 m.shard)), (22, .val (.int .i64 m.seq)), (26, .val (.int .i64 m.time)), (30, .val (.bool m.beat)), (36, .val (.int .i64 (↑m.c.when.length : Int)))] ?_
  refine Yc 23 #[.int .i64 m.fm] (some 12) fun w S hG => ?_
  refine (eightW (S := S)).mono ?_
  rintro e1 w1 hR
  refine ⟨_, _, _, hR, ?_⟩
  try simp only [aQ]
  refine Yc 23 #[.int .i64 m.to] (some 15) fun w S hG => ?_
  refine (eightW (S := S)).mono ?_
  rintro e2 w2 hR
  refine ⟨_, _, _, hR, ?_⟩
  try simp only [aQ]
  refine Yp (id := 1) (rest := [(9, false), (10, true), (13, false), (14, true), (17, false), (18, true), (21, false), (22, true), (27, false), (28, true), (29, true)]) [.rd 6 [.r 0 (some (.string (ByteArray.mk (enc8 m.fm ++ enc8 m.to).toArray)))] 0 10] [15, 12, 11, 14] [(16, .val (.string (ByteArray.mk (enc8 m.fm ++ enc8 m.to).toArray)))] [eqRun Tryd.prog .add 9 (Operand.tmp 12) (Operand.tmp 15) (.string (ByteArray.mk (enc8 m.fm).toArray)) (.string (ByteArray.mk (enc8 m.to).toArray)) (.string (ByteArray.mk (enc8 m.fm ++ enc8 m.to).toArray))] ⟨eqRun_cat _ _ (by simp only [enc8_length]; omega), trivial⟩ ?_
  refine Yc 23 #[.int .i64 m.shard] (some 19) fun w S hG => ?_
  refine (eightW (S := S)).mono ?_
  rintro e3 w3 hR
  refine ⟨_, _, _, hR, ?_⟩
  try simp only [aQ]
  refine Yp (id := 1) (rest := [(13, false), (14, true), (17, false), (18, true), (21, false), (22, true), (27, false), (28, true), (29, true)]) [.rd 10 [.r 0 (some (.string (ByteArray.mk (enc8 m.fm ++ enc8 m.to ++ enc8 m.shard).toArray)))] 0 10] [19, 16, 18] [(20, .val (.string (ByteArray.mk (enc8 m.fm ++ enc8 m.to ++ enc8 m.shard).toArray)))] [eqRun Tryd.prog .add 9 (Operand.tmp 16) (Operand.tmp 19) (.string (ByteArray.mk (enc8 m.fm ++ enc8 m.to).toArray)) (.string (ByteArray.mk (enc8 m.shard).toArray)) (.string (ByteArray.mk (enc8 m.fm ++ enc8 m.to ++ enc8 m.shard).toArray))] ⟨eqRun_cat _ _ (by simp only [List.length_append, enc8_length]; omega), trivial⟩ ?_
  refine Yc 23 #[.int .i64 m.seq] (some 23) fun w S hG => ?_
  refine (eightW (S := S)).mono ?_
  rintro e4 w4 hR
  refine ⟨_, _, _, hR, ?_⟩
  try simp only [aQ]
  refine Yp (id := 1) (rest := [(17, false), (18, true), (21, false), (22, true), (27, false), (28, true), (29, true)]) [.rd 14 [.r 0 (some (.string (ByteArray.mk (enc8 m.fm ++ enc8 m.to ++ enc8 m.shard ++ enc8 m.seq).toArray)))] 0 10] [23, 20, 22] [(24, .val (.string (ByteArray.mk (enc8 m.fm ++ enc8 m.to ++ enc8 m.shard ++ enc8 m.seq).toArray)))] [eqRun Tryd.prog .add 9 (Operand.tmp 20) (Operand.tmp 23) (.string (ByteArray.mk (enc8 m.fm ++ enc8 m.to ++ enc8 m.shard).toArray)) (.string (ByteArray.mk (enc8 m.seq).toArray)) (.string (ByteArray.mk (enc8 m.fm ++ enc8 m.to ++ enc8 m.shard ++ enc8 m.seq).toArray))] ⟨eqRun_cat _ _ (by simp only [List.length_append, enc8_length]; omega), trivial⟩ ?_
  refine Yc 23 #[.int .i64 m.time] (some 27) fun w S hG => ?_
  refine (eightW (S := S)).mono ?_
  rintro e5 w5 hR
  refine ⟨_, _, _, hR, ?_⟩
  try simp only [aQ]
  refine Yp (id := 1) (rest := [(21, false), (22, true), (27, false), (28, true), (29, true)]) [.rd 18 [.r 0 (some (.string (ByteArray.mk (enc8 m.fm ++ enc8 m.to ++ enc8 m.shard ++ enc8 m.seq ++ enc8 m.time).toArray)))] 0 10] [27, 24, 26] [(28, .val (.string (ByteArray.mk (enc8 m.fm ++ enc8 m.to ++ enc8 m.shard ++ enc8 m.seq ++ enc8 m.time).toArray)))] [eqRun Tryd.prog .add 9 (Operand.tmp 24) (Operand.tmp 27) (.string (ByteArray.mk (enc8 m.fm ++ enc8 m.to ++ enc8 m.shard ++ enc8 m.seq).toArray)) (.string (ByteArray.mk (enc8 m.time).toArray)) (.string (ByteArray.mk (enc8 m.fm ++ enc8 m.to ++ enc8 m.shard ++ enc8 m.seq ++ enc8 m.time).toArray))] ⟨eqRun_cat _ _ (by simp only [List.length_append, enc8_length]; omega), trivial⟩ ?_
  refine Yc 24 #[.bool m.beat] (some 31) fun w S hG => ?_
  refine (flagRW (S := S)).mono ?_
  rintro e6 w6 hR
  refine ⟨_, _, _, hR, ?_⟩
  try simp only [aQ]
  refine Yp (id := 1) (rest := [(27, false), (28, true), (29, true)]) [.rd 22 [.r 0 (some (.string (ByteArray.mk (enc8 m.fm ++ enc8 m.to ++ enc8 m.shard ++ enc8 m.seq ++ enc8 m.time ++ encF m.beat).toArray)))] 0 10] [31, 28, 30] [(32, .val (.string (ByteArray.mk (enc8 m.fm ++ enc8 m.to ++ enc8 m.shard ++ enc8 m.seq ++ enc8 m.time ++ encF m.beat).toArray)))] [eqRun Tryd.prog .add 9 (Operand.tmp 28) (Operand.tmp 31) (.string (ByteArray.mk (enc8 m.fm ++ enc8 m.to ++ enc8 m.shard ++ enc8 m.seq ++ enc8 m.time).toArray)) (.string (ByteArray.mk (encF m.beat).toArray)) (.string (ByteArray.mk (enc8 m.fm ++ enc8 m.to ++ enc8 m.shard ++ enc8 m.seq ++ enc8 m.time ++ encF m.beat).toArray))] ⟨eqRun_cat _ _ (by simp only [List.length_append, enc8_length, encF_length]; omega), trivial⟩ ?_
  refine Yc 23 #[.int .i64 (↑m.c.when.length : Int)] (some 37) fun w S hG => ?_
  refine (eightW (S := S)).mono ?_
  rintro e7 w7 hR
  refine ⟨_, _, _, hR, ?_⟩
  try simp only [aQ]
  refine Yp (id := 1) (rest := []) [.rd 28 [.r 0 (some (.string (ByteArray.mk (enc8 m.fm ++ enc8 m.to ++ enc8 m.shard ++ enc8 m.seq ++ enc8 m.time ++ encF m.beat ++ enc8 (↑m.c.when.length : Int)).toArray)))] 0 10, .rd 29 [] 0 0] [37, 32, 36] [(4, .val (.string (ByteArray.mk (enc8 m.fm ++ enc8 m.to ++ enc8 m.shard ++ enc8 m.seq ++ enc8 m.time ++ encF m.beat ++ enc8 (↑m.c.when.length : Int)).toArray)))] [eqRun Tryd.prog .add 9 (Operand.tmp 32) (Operand.tmp 37) (.string (ByteArray.mk (enc8 m.fm ++ enc8 m.to ++ enc8 m.shard ++ enc8 m.seq ++ enc8 m.time ++ encF m.beat).toArray)) (.string (ByteArray.mk (enc8 (↑m.c.when.length : Int)).toArray)) (.string (ByteArray.mk (enc8 m.fm ++ enc8 m.to ++ enc8 m.shard ++ enc8 m.seq ++ enc8 m.time ++ encF m.beat ++ enc8 (↑m.c.when.length : Int)).toArray))] ⟨eqRun_cat _ _ (by simp only [List.length_append, enc8_length, encF_length]; omega), trivial⟩ ?_
  refine JR_end ?_
  refine J_seq ?_
  refine J_seq ?_
  refine Za [.rd 0 [] 0 0] [] [(5, .val (.int .i64 0))] ?_
  refine J_block ?_
  refine J_loopx (fun x : Int × List UInt8 => [(1, .val (.pointer (some (⟨nu1 0, 0, none⟩)))), (2, .val (.string (ByteArray.mk #[]))), (3, .val (.int .i64 0)), (4, .val (.string ⟨x.2.toArray⟩)), (5, .val (.int .i64 x.1))]) (fun x : Int × List UInt8 => [(nu1 0, .cells #[.int .i64 m.fm, .int .i64 m.to, .int .i64 m.shard, .int .i64 m.seq, .int .i64 m.time, .bool m.beat, .slice a1 m.c.when.length c1, .int .i64 m.c.place, .slice a2 m.c.ops.length c2] 27 (0, 0))]) (fun x : Int × List UInt8 => []) (fun x : Int × List UInt8 => [(.slice a1 m.c.when.length c1, (dInts m.c.when)), (.slice a2 m.c.ops.length c2, (D.sl 7 (List.map eOp m.c.ops)))]) (fun x : Int × List UInt8 => (m.c.when.length - x.1).toNat) (fun x : Int × List UInt8 => (0 ≤ x.1 ∧ x.1 ≤ m.c.when.length ∧ x.2 = enc8 m.fm ++ enc8 m.to ++ enc8 m.shard ++ enc8 m.seq ++ enc8 m.time ++ encF m.beat ++ enc8 (m.c.when.length : Int) ++ (m.c.when.take x.1.toNat).flatMap enc8)) (0, enc8 m.fm ++ enc8 m.to ++ enc8 m.shard ++ enc8 m.seq ++ enc8 m.time ++ encF m.beat ++ enc8 (m.c.when.length : Int)) [1, 2, 3, 4, 5] [0] [] [0, 1] ?_ (by kernel_rfl) rfl rfl rfl ?_
  · exact ⟨by simp, by simp, by simp⟩
  rintro ⟨i, l⟩ ⟨hi0, hi, hl⟩
  dsimp only at hi0 hi hl ⊢
  have hll : l.length ≤ 90000 := by
    have := flat_take_le enc8 m.c.when i.toNat
    rw [flat8 m.c.when] at this
    rw [hl]
    simp only [List.length_append, enc8_length, encF_length]
    omega
  refine J_seq ?_
  refine J_seq ?_
  refine Za (Rds 0 3 ++ [.rd 3 [.o 0 none] 0 0, .rd 4 [] 0 0, .rd 5 [] 0 0]) [] [(44, .val (.bool (decide (i < (↑m.c.when.length : Int)))))] ?_
  refine J_cond (t := decide (i < (↑m.c.when.length : Int))) (by kernel_rfl) (by kernel_rfl) (fun hlt => ?_) (fun hlt => ?_)
  · have hlt2 : i < m.c.when.length := by simpa using hlt
    obtain ⟨v, hv⟩ : ∃ x, m.c.when[i.toNat]? = some x := ⟨_, List.getElem?_eq_getElem (by omega)⟩
    refine J_read0 0 rfl i.toNat (map_at hv) (by kernel_rfl) (fun b1 off1 cs1 ty1 fz1 ha1 hrd1 => ?_)
    cases ha1
    have hrd1_0 := rd0 (hrd1 0 _ rfl)
    try simp only [aQ]
    refine J_skip ?_
    refine J_seq ?_
    refine J_block ?_
    refine jT [(0, true), (1, true), (2, true), (3, true), (4, true), (5, true), (6, true), (7, false), (8, true), (9, true)] [] ?_
    refine Yp (id := 5) (rest := [(7, false), (8, true), (9, true)]) (Rds 0 3 ++ [.rd 3 [.o 0 none] 0 0, .rd 4 [] 0 0, .rd 5 [] 0 2, .rd 6 [.r 0 (some (.int .i64 v))] 0 0]) [44] [(47, .val (.string (ByteArray.mk l.toArray))), (53, .val (.int .i64 v))] [(0 : Int) ≤ i, i < (↑m.c.when.length : Int), cs1[off1 + i.toNat * (1 : Nat)]? = some (Value.int IntKind.i64 v)] ⟨hi0, hlt2, hrd1_0, trivial⟩ ?_
    refine Yc 23 #[.int .i64 v] (some 54) fun w S hG => ?_
    refine (eightW (S := S)).mono ?_
    rintro e8 w8 hR
    refine ⟨_, _, _, hR, ?_⟩
    try simp only [aQ]
    refine Yp (id := 5) (rest := []) [.rd 8 [.r 0 (some (.string (ByteArray.mk (l ++ enc8 v).toArray)))] 0 10, .rd 9 [] 0 0] [54, 47, 53] [(4, .val (.string (ByteArray.mk (l ++ enc8 v).toArray)))] [eqRun Tryd.prog .add 9 (Operand.tmp 47) (Operand.tmp 54) (.string (ByteArray.mk l.toArray)) (.string (ByteArray.mk (enc8 v).toArray)) (.string (ByteArray.mk (l ++ enc8 v).toArray))] ⟨eqRun_cat _ _ (by simp only [enc8_length]; omega), trivial⟩ ?_
    refine JR_end ?_
    refine J_eb ?_
    refine Zp [.rd 0 [] 0 0, .rd 1 [] 0 1, .rd 2 [] 0 0] [] [(5, .val (.int .i64 (i + 1)))] [IntKind.i64.wrap (i + (1 : Int)) = i + (1 : Int)] ⟨wrap_i64 (by omega) (by omega), trivial⟩ ?_
    refine J_backx (i + 1, l ++ enc8 v) [1, 2, 3, 4, 5] [0] [] [0, 1] ?_ ?_ (by kernel_rfl) rfl rfl rfl
    · refine ⟨by simp only; omega, by simp only; omega, ?_⟩
      simp only
      rw [hl, ← take_snoc hi0 hv, List.flatMap_append]
      simp
    · simp only
      omega
  · have e0 : m.c.when.take i.toNat = m.c.when := List.take_of_length_le (by simp at hlt; omega)
    rw [e0] at hl
    refine J_exit rfl ?_
    refine J_seq ?_
    refine jT [(0, true), (1, true), (2, true), (3, true), (6, true), (7, true), (8, true), (9, true), (4, false), (5, true), (10, false), (11, true), (12, true)] [] ?_
    refine Ya (id := 6) (rest := [(4, false), (5, true), (10, false), (11, true), (12, true)]) (Rds 0 3 ++ [.rd 3 [.o 0 none] 0 0, .rd 6 [] 0 0, .rd 7 [] 0 0, .rd 8 [.o 0 none] 0 0, .rd 9 [] 0 0]) [44, 5] [(56, .val (.string (ByteArray.mk l.toArray))), (59, .val (.int .i64 m.c.place)), (65, .val (.int .i64 (↑m.c.ops.length : Int)))] ?_
    refine Yc 23 #[.int .i64 m.c.place] (some 60) fun w S hG => ?_
    refine (eightW (S := S)).mono ?_
    rintro e9 w9 hR
    refine ⟨_, _, _, hR, ?_⟩
    try simp only [aQ]
    refine Yp (id := 6) (rest := [(10, false), (11, true), (12, true)]) [.rd 5 [.r 0 (some (.string (ByteArray.mk (l ++ enc8 m.c.place).toArray)))] 0 10] [60, 56, 59] [(61, .val (.string (ByteArray.mk (l ++ enc8 m.c.place).toArray)))] [eqRun Tryd.prog .add 9 (Operand.tmp 56) (Operand.tmp 60) (.string (ByteArray.mk l.toArray)) (.string (ByteArray.mk (enc8 m.c.place).toArray)) (.string (ByteArray.mk (l ++ enc8 m.c.place).toArray))] ⟨eqRun_cat _ _ (by simp only [enc8_length]; omega), trivial⟩ ?_
    refine Yc 23 #[.int .i64 (↑m.c.ops.length : Int)] (some 66) fun w S hG => ?_
    refine (eightW (S := S)).mono ?_
    rintro e10 w10 hR
    refine ⟨_, _, _, hR, ?_⟩
    try simp only [aQ]
    refine Yp (id := 6) (rest := []) [.rd 11 [.r 0 (some (.string (ByteArray.mk (l ++ enc8 m.c.place ++ enc8 (↑m.c.ops.length : Int)).toArray)))] 0 10, .rd 12 [] 0 0] [66, 61, 65] [(4, .val (.string (ByteArray.mk (l ++ enc8 m.c.place ++ enc8 (↑m.c.ops.length : Int)).toArray)))] [eqRun Tryd.prog .add 9 (Operand.tmp 61) (Operand.tmp 66) (.string (ByteArray.mk (l ++ enc8 m.c.place).toArray)) (.string (ByteArray.mk (enc8 (↑m.c.ops.length : Int)).toArray)) (.string (ByteArray.mk (l ++ enc8 m.c.place ++ enc8 (↑m.c.ops.length : Int)).toArray))] ⟨eqRun_cat _ _ (by simp only [List.length_append, enc8_length]; omega), trivial⟩ ?_
    refine JR_end ?_
    refine J_seq ?_
    refine J_seq ?_
    refine Za [.rd 0 [] 0 0] [] [(6, .val (.int .i64 0))] ?_
    refine J_block ?_
    refine J_loopx (fun x : Int × List UInt8 => [(1, .val (.pointer (some (⟨nu1 0, 0, none⟩)))), (2, .val (.string (ByteArray.mk #[]))), (3, .val (.int .i64 0)), (4, .val (.string ⟨x.2.toArray⟩)), (6, .val (.int .i64 x.1))]) (fun x : Int × List UInt8 => [(nu1 0, .cells #[.int .i64 m.fm, .int .i64 m.to, .int .i64 m.shard, .int .i64 m.seq, .int .i64 m.time, .bool m.beat, .slice a1 m.c.when.length c1, .int .i64 m.c.place, .slice a2 m.c.ops.length c2] 27 (0, 0))]) (fun x : Int × List UInt8 => []) (fun x : Int × List UInt8 => [(.slice a1 m.c.when.length c1, (dInts m.c.when)), (.slice a2 m.c.ops.length c2, (D.sl 7 (List.map eOp m.c.ops)))]) (fun x : Int × List UInt8 => (m.c.ops.length - x.1).toNat) (fun x : Int × List UInt8 => (0 ≤ x.1 ∧ x.1 ≤ m.c.ops.length ∧ x.2 = headM m ++ (m.c.ops.take x.1.toNat).flatMap encOp)) (0, l ++ enc8 m.c.place ++ enc8 (m.c.ops.length : Int)) [1, 2, 3, 4, 6] [0] [] [0, 1] ?_ (by kernel_rfl) rfl rfl rfl ?_
    · refine ⟨by simp, by simp, ?_⟩
      simp only
      rw [hl]
      simp [headM]
    rintro ⟨i, r⟩ ⟨hi0, hi, hr⟩
    dsimp only at hi0 hi hr ⊢
    have hrl : r.length ≤ 90000 := by
      have := flat_take_le encOp m.c.ops i.toNat
      rw [hr, List.length_append]
      omega
    refine J_seq ?_
    refine J_seq ?_
    refine Za (Rds 0 3 ++ [.rd 3 [.o 0 none] 0 0, .rd 4 [] 0 0, .rd 5 [] 0 0]) [] [(73, .val (.bool (decide (i < (↑m.c.ops.length : Int)))))] ?_
    refine J_cond (t := decide (i < (↑m.c.ops.length : Int))) (by kernel_rfl) (by kernel_rfl) (fun hlt => ?_) (fun hlt => ?_)
    · have hlt2 : i < m.c.ops.length := by simpa using hlt
      obtain ⟨o, ho⟩ : ∃ x, m.c.ops[i.toNat]? = some x := ⟨_, List.getElem?_eq_getElem (by omega)⟩
      have hbo2 := hbo o (List.mem_of_getElem? ho)
      have hho : (headO o).length = 56 + o.key.size + o.text.size := by
        simp only [headO, List.length_append, flat8, encF, encT_length, enc8_length, List.length_cons, List.length_nil]
        omega
      have hod : o.dots.length ≤ 90000 := by
        have := flat_length (en := encDot) (least := 1) (fun x => by simp only [encDot, List.length_append, enc8_length]; omega) o.dots
        omega
      refine J_read1 1 rfl i.toNat (map_at ho) (by kernel_rfl) (fun b1 off1 cs1 ty1 fz1 a1_0 c1_0 ha1 hrd1 => ?_)
      cases ha1
      have hrd1_0 := rd0 (hrd1 0 _ rfl)
      have hrd1_1 := hrd1 1 _ rfl
      have hrd1_2 := hrd1 2 _ rfl
      have hrd1_3 := hrd1 3 _ rfl
      have hrd1_4 := hrd1 4 _ rfl
      have hrd1_5 := hrd1 5 _ rfl
      have hrd1_6 := hrd1 6 _ rfl
      try simp only [aQ]
      refine J_skip ?_
      refine J_seq ?_
      refine J_block ?_
      refine J_seq ?_
      refine Zn [.rd 0 [] 0 0, .rd 1 [] 0 0, .rd 2 [.o 0 none] 0 0, .rd 3 [] 0 0, .rd 4 [] 0 2, .rd 5 [.r 0 (some (.int .i64 o.no)), .r 0 (some (.string o.key)), .r 0 (some (.int .i64 o.kind)), .r 0 (some (.string o.text)), .r 0 (some (.int .i64 o.n)), .r 0 (some (.bool o.remove)), .r 0 (some (.slice (a1_0, c1_0).fst ((List.map eDot o.dots).length) c1_0))] 0 0, .wr 6 [] 0, .wr 7 [.o 1 none, .o 1 none, .o 1 none, .o 1 none, .o 1 none, .o 1 none, .o 1 none] 0] [(7, [])] [73] (fun nu2 => [(7, .val (.pointer (some (⟨nu2 0, 0, none⟩))))]) (fun nu2 => [(nu1 0, .cells #[.int .i64 m.fm, .int .i64 m.to, .int .i64 m.shard, .int .i64 m.seq, .int .i64 m.time, .bool m.beat, .slice a1 m.c.when.length c1, .int .i64 m.c.place, .slice (some (⟨b1, off1, none⟩)) m.c.ops.length c2] 27 (0, 0)), (nu2 0, .cells #[.int .i64 o.no, .string o.key, .int .i64 o.kind, .string o.text, .int .i64 o.n, .bool o.remove, .slice (a1_0, c1_0).fst ((List.map eDot o.dots).length) c1_0] 52 (0, 0))]) (fun nu2 => [(0 : Int) ≤ i, i < (↑m.c.ops.length : Int), cs1[off1 + i.toNat * (7 : Nat)]? = some (Value.int IntKind.i64 o.no), cs1[off1 + i.toNat * (7 : Nat) + (1 : Nat)]? = some (Value.string o.key), cs1[off1 + i.toNat * (7 : Nat) + (2 : Nat)]? = some (Value.int IntKind.i64 o.kind), cs1[off1 + i.toNat * (7 : Nat) + (3 : Nat)]? = some (Value.string o.text), cs1[off1 + i.toNat * (7 : Nat) + (4 : Nat)]? = some (Value.int IntKind.i64 o.n), cs1[off1 + i.toNat * (7 : Nat) + (5 : Nat)]? = some (Value.bool o.remove), cs1[off1 + i.toNat * (7 : Nat) + (6 : Nat)]? = some (Value.slice (a1_0, c1_0).fst (List.map eDot o.dots).length (a1_0, c1_0).snd)]) (fun _ => ⟨hi0, hlt2, hrd1_0, hrd1_1, hrd1_2, hrd1_3, hrd1_4, hrd1_5, hrd1_6, trivial⟩) (fun nu2 => ?_)
      refine J_seq ?_
      refine jT [(0, true), (1, true), (2, true), (5, true), (6, true), (7, true), (10, true), (11, true), (13, true), (14, true), (17, true), (18, true), (19, true), (22, true), (23, true), (25, true), (26, true), (29, true), (30, true), (33, true), (34, true), (35, true), (3, false), (4, true), (8, false), (9, true), (12, true), (15, false), (16, true), (20, false), (21, true), (24, true), (27, false), (28, true), (31, false), (32, true), (36, false), (37, true), (38, true)] [] ?_
      refine Ya (id := 11) (rest := [(3, false), (4, true), (8, false), (9, true), (12, true), (15, false), (16, true), (20, false), (21, true), (24, true), (27, false), (28, true), (31, false), (32, true), (36, false), (37, true), (38, true)]) [.rd 0 [] 0 0, .rd 1 [] 0 0, .rd 2 [.o 1 none] 0 0, .rd 5 [] 0 0, .rd 6 [.o 1 none] 0 0, .rd 7 [] 0 0, .rd 10 [] 0 0, .rd 11 [.o 1 none] 0 0, .rd 13 [] 0 0, .rd 14 [.o 1 none] 0 0, .rd 17 [] 0 0, .rd 18 [.o 1 none] 0 0, .rd 19 [] 0 0, .rd 22 [] 0 0, .rd 23 [.o 1 none] 0 0, .rd 25 [] 0 0, .rd 26 [.o 1 none] 0 0, .rd 29 [] 0 0, .rd 30 [.o 1 none] 0 0, .rd 33 [] 0 0, .rd 34 [.o 1 none] 0 0, .rd 35 [] 0 0] [] [(82, .val (.string (ByteArray.mk r.toArray))), (84, .val (.int .i64 o.no)), (89, .val (.int .i64 (↑o.key.size : Int))), (93, .val (.string o.key)), (96, .val (.int .i64 o.kind)), (101, .val (.int .i64 (↑o.text.size : Int))), (105, .val (.string o.text)), (108, .val (.int .i64 o.n)), (112, .val (.bool o.remove)), (117, .val (.int .i64 ((↑(List.map eDot o.dots).length : Int))))] ?_
      refine Yc 23 #[.int .i64 o.no] (some 85) fun w S hG => ?_
      refine (eightW (S := S)).mono ?_
      rintro e11 w11 hR
      refine ⟨_, _, _, hR, ?_⟩
      try simp only [aQ]
      refine Yp (id := 11) (rest := [(8, false), (9, true), (12, true), (15, false), (16, true), (20, false), (21, true), (24, true), (27, false), (28, true), (31, false), (32, true), (36, false), (37, true), (38, true)]) [.rd 4 [.r 0 (some (.string (ByteArray.mk (r ++ enc8 o.no).toArray)))] 0 10] [85, 82, 84] [(86, .val (.string (ByteArray.mk (r ++ enc8 o.no).toArray)))] [eqRun Tryd.prog .add 9 (Operand.tmp 82) (Operand.tmp 85) (.string (ByteArray.mk r.toArray)) (.string (ByteArray.mk (enc8 o.no).toArray)) (.string (ByteArray.mk (r ++ enc8 o.no).toArray))] ⟨eqRun_cat _ _ (by simp only [enc8_length]; omega), trivial⟩ ?_
      refine Yc 23 #[.int .i64 (↑o.key.size : Int)] (some 90) fun w S hG => ?_
      refine (eightW (S := S)).mono ?_
      rintro e12 w12 hR
      refine ⟨_, _, _, hR, ?_⟩
      try simp only [aQ]
      refine Yp (id := 11) (rest := [(15, false), (16, true), (20, false), (21, true), (24, true), (27, false), (28, true), (31, false), (32, true), (36, false), (37, true), (38, true)]) [.rd 9 [.r 0 (some (.string (ByteArray.mk (r ++ enc8 o.no ++ enc8 (↑o.key.size : Int)).toArray)))] 0 10, .rd 12 [.r 0 (some (.string (ByteArray.mk (r ++ enc8 o.no ++ enc8 (↑o.key.size : Int) ++ o.key.data.toList).toArray)))] 0 10] [90, 86, 89, 93] [(94, .val (.string (ByteArray.mk (r ++ enc8 o.no ++ enc8 (↑o.key.size : Int) ++ o.key.data.toList).toArray)))] [eqRun Tryd.prog .add 9 (Operand.tmp 86) (Operand.tmp 90) (.string (ByteArray.mk (r ++ enc8 o.no).toArray)) (.string (ByteArray.mk (enc8 (↑o.key.size : Int)).toArray)) (.string (ByteArray.mk (r ++ enc8 o.no ++ enc8 (↑o.key.size : Int)).toArray)), eqRun Tryd.prog .add 9 (Operand.tmp 91) (Operand.tmp 93) (.string (ByteArray.mk (r ++ enc8 o.no ++ enc8 (↑o.key.size : Int)).toArray)) (.string (ByteArray.mk o.key.data.toList.toArray)) (.string (ByteArray.mk (r ++ enc8 o.no ++ enc8 (↑o.key.size : Int) ++ o.key.data.toList).toArray))] ⟨eqRun_cat _ _ (by simp only [List.length_append, enc8_length]; omega), eqRun_cat _ _ (by simp only [List.length_append, enc8_length, Array.length_toList, ByteArray.size_data]; omega), trivial⟩ ?_
      refine Yc 23 #[.int .i64 o.kind] (some 97) fun w S hG => ?_
      refine (eightW (S := S)).mono ?_
      rintro e13 w13 hR
      refine ⟨_, _, _, hR, ?_⟩
      try simp only [aQ]
      refine Yp (id := 11) (rest := [(20, false), (21, true), (24, true), (27, false), (28, true), (31, false), (32, true), (36, false), (37, true), (38, true)]) [.rd 16 [.r 0 (some (.string (ByteArray.mk (r ++ enc8 o.no ++ enc8 (↑o.key.size : Int) ++ o.key.data.toList ++ enc8 o.kind).toArray)))] 0 10] [97, 94, 96] [(98, .val (.string (ByteArray.mk (r ++ enc8 o.no ++ enc8 (↑o.key.size : Int) ++ o.key.data.toList ++ enc8 o.kind).toArray)))] [eqRun Tryd.prog .add 9 (Operand.tmp 94) (Operand.tmp 97) (.string (ByteArray.mk (r ++ enc8 o.no ++ enc8 (↑o.key.size : Int) ++ o.key.data.toList).toArray)) (.string (ByteArray.mk (enc8 o.kind).toArray)) (.string (ByteArray.mk (r ++ enc8 o.no ++ enc8 (↑o.key.size : Int) ++ o.key.data.toList ++ enc8 o.kind).toArray))] ⟨eqRun_cat _ _ (by simp only [List.length_append, enc8_length, Array.length_toList, ByteArray.size_data]; omega), trivial⟩ ?_
      refine Yc 23 #[.int .i64 (↑o.text.size : Int)] (some 102) fun w S hG => ?_
      refine (eightW (S := S)).mono ?_
      rintro e14 w14 hR
      refine ⟨_, _, _, hR, ?_⟩
      try simp only [aQ]
      refine Yp (id := 11) (rest := [(27, false), (28, true), (31, false), (32, true), (36, false), (37, true), (38, true)]) [.rd 21 [.r 0 (some (.string (ByteArray.mk (r ++ enc8 o.no ++ enc8 (↑o.key.size : Int) ++ o.key.data.toList ++ enc8 o.kind ++ enc8 (↑o.text.size : Int)).toArray)))] 0 10, .rd 24 [.r 0 (some (.string (ByteArray.mk (r ++ enc8 o.no ++ enc8 (↑o.key.size : Int) ++ o.key.data.toList ++ enc8 o.kind ++ enc8 (↑o.text.size : Int) ++ o.text.data.toList).toArray)))] 0 10] [102, 98, 101, 105] [(106, .val (.string (ByteArray.mk (r ++ enc8 o.no ++ enc8 (↑o.key.size : Int) ++ o.key.data.toList ++ enc8 o.kind ++ enc8 (↑o.text.size : Int) ++ o.text.data.toList).toArray)))] [eqRun Tryd.prog .add 9 (Operand.tmp 98) (Operand.tmp 102) (.string (ByteArray.mk (r ++ enc8 o.no ++ enc8 (↑o.key.size : Int) ++ o.key.data.toList ++ enc8 o.kind).toArray)) (.string (ByteArray.mk (enc8 (↑o.text.size : Int)).toArray)) (.string (ByteArray.mk (r ++ enc8 o.no ++ enc8 (↑o.key.size : Int) ++ o.key.data.toList ++ enc8 o.kind ++ enc8 (↑o.text.size : Int)).toArray)), eqRun Tryd.prog .add 9 (Operand.tmp 103) (Operand.tmp 105) (.string (ByteArray.mk (r ++ enc8 o.no ++ enc8 (↑o.key.size : Int) ++ o.key.data.toList ++ enc8 o.kind ++ enc8 (↑o.text.size : Int)).toArray)) (.string (ByteArray.mk o.text.data.toList.toArray)) (.string (ByteArray.mk (r ++ enc8 o.no ++ enc8 (↑o.key.size : Int) ++ o.key.data.toList ++ enc8 o.kind ++ enc8 (↑o.text.size : Int) ++ o.text.data.toList).toArray))] ⟨eqRun_cat _ _ (by simp only [List.length_append, enc8_length, Array.length_toList, ByteArray.size_data]; omega), eqRun_cat _ _ (by simp only [List.length_append, enc8_length, Array.length_toList, ByteArray.size_data]; omega), trivial⟩ ?_
      refine Yc 23 #[.int .i64 o.n] (some 109) fun w S hG => ?_
      refine (eightW (S := S)).mono ?_
      rintro e15 w15 hR
      refine ⟨_, _, _, hR, ?_⟩
      try simp only [aQ]
      refine Yp (id := 11) (rest := [(31, false), (32, true), (36, false), (37, true), (38, true)]) [.rd 28 [.r 0 (some (.string (ByteArray.mk (r ++ enc8 o.no ++ enc8 (↑o.key.size : Int) ++ o.key.data.toList ++ enc8 o.kind ++ enc8 (↑o.text.size : Int) ++ o.text.data.toList ++ enc8 o.n).toArray)))] 0 10] [109, 106, 108] [(110, .val (.string (ByteArray.mk (r ++ enc8 o.no ++ enc8 (↑o.key.size : Int) ++ o.key.data.toList ++ enc8 o.kind ++ enc8 (↑o.text.size : Int) ++ o.text.data.toList ++ enc8 o.n).toArray)))] [eqRun Tryd.prog .add 9 (Operand.tmp 106) (Operand.tmp 109) (.string (ByteArray.mk (r ++ enc8 o.no ++ enc8 (↑o.key.size : Int) ++ o.key.data.toList ++ enc8 o.kind ++ enc8 (↑o.text.size : Int) ++ o.text.data.toList).toArray)) (.string (ByteArray.mk (enc8 o.n).toArray)) (.string (ByteArray.mk (r ++ enc8 o.no ++ enc8 (↑o.key.size : Int) ++ o.key.data.toList ++ enc8 o.kind ++ enc8 (↑o.text.size : Int) ++ o.text.data.toList ++ enc8 o.n).toArray))] ⟨eqRun_cat _ _ (by simp only [List.length_append, enc8_length, Array.length_toList, ByteArray.size_data]; omega), trivial⟩ ?_
      refine Yc 24 #[.bool o.remove] (some 113) fun w S hG => ?_
      refine (flagRW (S := S)).mono ?_
      rintro e16 w16 hR
      refine ⟨_, _, _, hR, ?_⟩
      try simp only [aQ]
      refine Yp (id := 11) (rest := [(36, false), (37, true), (38, true)]) [.rd 32 [.r 0 (some (.string (ByteArray.mk (r ++ enc8 o.no ++ enc8 (↑o.key.size : Int) ++ o.key.data.toList ++ enc8 o.kind ++ enc8 (↑o.text.size : Int) ++ o.text.data.toList ++ enc8 o.n ++ encF o.remove).toArray)))] 0 10] [113, 110, 112] [(114, .val (.string (ByteArray.mk (r ++ enc8 o.no ++ enc8 (↑o.key.size : Int) ++ o.key.data.toList ++ enc8 o.kind ++ enc8 (↑o.text.size : Int) ++ o.text.data.toList ++ enc8 o.n ++ encF o.remove).toArray)))] [eqRun Tryd.prog .add 9 (Operand.tmp 110) (Operand.tmp 113) (.string (ByteArray.mk (r ++ enc8 o.no ++ enc8 (↑o.key.size : Int) ++ o.key.data.toList ++ enc8 o.kind ++ enc8 (↑o.text.size : Int) ++ o.text.data.toList ++ enc8 o.n).toArray)) (.string (ByteArray.mk (encF o.remove).toArray)) (.string (ByteArray.mk (r ++ enc8 o.no ++ enc8 (↑o.key.size : Int) ++ o.key.data.toList ++ enc8 o.kind ++ enc8 (↑o.text.size : Int) ++ o.text.data.toList ++ enc8 o.n ++ encF o.remove).toArray))] ⟨eqRun_cat _ _ (by simp only [List.length_append, enc8_length, encF_length, Array.length_toList, ByteArray.size_data]; omega), trivial⟩ ?_
      refine Yc 23 #[.int .i64 ((↑(List.map eDot o.dots).length : Int))] (some 118) fun w S hG => ?_
      refine (eightW (S := S)).mono ?_
      rintro e17 w17 hR
      refine ⟨_, _, _, hR, ?_⟩
      try simp only [aQ]
      refine Yp (id := 11) (rest := []) [.rd 37 [.r 0 (some (.string (ByteArray.mk (r ++ enc8 o.no ++ enc8 (↑o.key.size : Int) ++ o.key.data.toList ++ enc8 o.kind ++ enc8 (↑o.text.size : Int) ++ o.text.data.toList ++ enc8 o.n ++ encF o.remove ++ enc8 (↑(List.map eDot o.dots).length : Int)).toArray)))] 0 10, .rd 38 [] 0 0] [118, 114, 117] [(4, .val (.string (ByteArray.mk (r ++ enc8 o.no ++ enc8 (↑o.key.size : Int) ++ o.key.data.toList ++ enc8 o.kind ++ enc8 (↑o.text.size : Int) ++ o.text.data.toList ++ enc8 o.n ++ encF o.remove ++ enc8 (↑(List.map eDot o.dots).length : Int)).toArray)))] [eqRun Tryd.prog .add 9 (Operand.tmp 114) (Operand.tmp 118) (.string (ByteArray.mk (r ++ enc8 o.no ++ enc8 (↑o.key.size : Int) ++ o.key.data.toList ++ enc8 o.kind ++ enc8 (↑o.text.size : Int) ++ o.text.data.toList ++ enc8 o.n ++ encF o.remove).toArray)) (.string (ByteArray.mk (enc8 (↑(List.map eDot o.dots).length : Int)).toArray)) (.string (ByteArray.mk (r ++ enc8 o.no ++ enc8 (↑o.key.size : Int) ++ o.key.data.toList ++ enc8 o.kind ++ enc8 (↑o.text.size : Int) ++ o.text.data.toList ++ enc8 o.n ++ encF o.remove ++ enc8 (↑(List.map eDot o.dots).length : Int)).toArray))] ⟨eqRun_cat _ _ (by simp only [List.length_append, enc8_length, encF_length, Array.length_toList, ByteArray.size_data]; omega), trivial⟩ ?_
      refine JR_end ?_
      refine J_seq ?_
      refine Za [.rd 0 [] 0 0] [] [(8, .val (.int .i64 0))] ?_
      refine J_block ?_
      refine J_loopx (fun y : Int × List UInt8 => [(1, .val (.pointer (some (⟨nu1 0, 0, none⟩)))), (2, .val (.string (ByteArray.mk #[]))), (3, .val (.int .i64 0)), (4, .val (.string ⟨y.2.toArray⟩)), (6, .val (.int .i64 i)), (7, .val (.pointer (some (⟨nu2 0, 0, none⟩)))), (8, .val (.int .i64 y.1))]) (fun y : Int × List UInt8 => [(nu1 0, .cells #[.int .i64 m.fm, .int .i64 m.to, .int .i64 m.shard, .int .i64 m.seq, .int .i64 m.time, .bool m.beat, .slice a1 m.c.when.length c1, .int .i64 m.c.place, .slice (some (⟨b1, off1, none⟩)) m.c.ops.length c2] 27 (0, 0)), (nu2 0, .cells #[.int .i64 o.no, .string o.key, .int .i64 o.kind, .string o.text, .int .i64 o.n, .bool o.remove, .slice a1_0 ((List.map eDot o.dots).length) c1_0] 52 (0, 0))]) (fun y : Int × List UInt8 => []) (fun y : Int × List UInt8 => [(.slice a1 m.c.when.length c1, (dInts m.c.when)), (.slice (some (⟨b1, off1, none⟩)) m.c.ops.length c2, (D.sl 7 (List.map eOp m.c.ops))), (.slice (a1_0, c1_0).fst ((List.map eDot o.dots).length) c1_0, (D.sl 3 (List.map eDot o.dots)))]) (fun y : Int × List UInt8 => (o.dots.length - y.1).toNat) (fun y : Int × List UInt8 => (0 ≤ y.1 ∧ y.1 ≤ o.dots.length ∧ y.2 = r ++ headO o ++ (o.dots.take y.1.toNat).flatMap encDot)) (0, r ++ enc8 o.no ++ enc8 (o.key.size : Int) ++ o.key.data.toList ++ enc8 o.kind ++ enc8 (o.text.size : Int) ++ o.text.data.toList ++ enc8 o.n ++ encF o.remove ++ enc8 ((o.dots.map eDot).length : Int)) [1, 2, 3, 4, 6, 7, 8] [0, 1] [] [0, 1, 2] ?_ (by kernel_rfl) rfl rfl rfl ?_
      · refine ⟨by simp, by simp, ?_⟩
        simp [headO, encT]
      rintro ⟨j, q⟩ ⟨hj0, hj, hq⟩
      dsimp only at hj0 hj hq ⊢
      have hql : q.length ≤ 180000 := by
        have := flat_take_le encDot o.dots j.toNat
        rw [hq, List.length_append, List.length_append]
        omega
      refine J_seq ?_
      refine J_seq ?_
      refine Za [.rd 0 [] 0 0, .rd 1 [] 0 0, .rd 2 [.o 1 none] 0 0, .rd 3 [] 0 0, .rd 4 [] 0 0] [] [(124, .val (.bool (decide (j < (↑(List.map eDot o.dots).length : Int)))))] ?_
      refine J_cond (t := decide (j < (↑(List.map eDot o.dots).length : Int))) (by kernel_rfl) (by kernel_rfl) (fun hlt3 => ?_) (fun hlt3 => ?_)
      · have hlt4 : j < o.dots.length := by simpa using hlt3
        obtain ⟨d, hd⟩ : ∃ x, o.dots[j.toNat]? = some x := ⟨_, List.getElem?_eq_getElem (by omega)⟩
        refine J_read0 2 rfl j.toNat (map_at hd) (by kernel_rfl) (fun b2 off2 cs2 ty2 fz2 ha2 hrd2 => ?_)
        cases ha2
        have hrd2_0 := rd0 (hrd2 0 _ rfl)
        have hrd2_1 := hrd2 1 _ rfl
        have hrd2_2 := hrd2 2 _ rfl
        try simp only [aQ]
        refine J_skip ?_
        refine J_seq ?_
        refine J_block ?_
        refine jT [(0, true), (1, true), (2, true), (3, true), (4, true), (5, true), (6, true), (9, true), (10, true), (11, true), (12, true), (13, true), (14, true), (17, true), (18, true), (19, true), (20, true), (21, true), (22, true), (7, false), (8, true), (15, false), (16, true), (23, false), (24, true), (25, true)] [] ?_
        refine Yp (id := 15) (rest := [(7, false), (8, true), (15, false), (16, true), (23, false), (24, true), (25, true)]) [.rd 0 [] 0 0, .rd 1 [] 0 0, .rd 2 [.o 1 none] 0 0, .rd 3 [] 0 0, .rd 4 [] 0 2, .rd 5 [] 0 0, .rd 6 [.r 1 (some (.int .i64 d.place))] 0 0, .rd 9 [] 0 0, .rd 10 [.o 1 none] 0 0, .rd 11 [] 0 0, .rd 12 [] 0 2, .rd 13 [] 0 0, .rd 14 [.r 1 (some (.int .i64 d.time))] 0 0, .rd 17 [] 0 0, .rd 18 [.o 1 none] 0 0, .rd 19 [] 0 0, .rd 20 [] 0 2, .rd 21 [] 0 0, .rd 22 [.r 1 (some (.int .i64 d.no))] 0 0] [124] [(127, .val (.string (ByteArray.mk q.toArray))), (133, .val (.int .i64 d.place)), (141, .val (.int .i64 d.time)), (149, .val (.int .i64 d.no))] [(0 : Int) ≤ j, j < (↑(List.map eDot o.dots).length : Int), cs2[off2 + j.toNat * (3 : Nat)]? = some (Value.int IntKind.i64 d.place), (0 : Int) ≤ j, j < (↑(List.map eDot o.dots).length : Int), cs2[off2 + j.toNat * (3 : Nat) + (1 : Nat)]? = some (Value.int IntKind.i64 d.time), (0 : Int) ≤ j, j < (↑(List.map eDot o.dots).length : Int), cs2[off2 + j.toNat * (3 : Nat) + (2 : Nat)]? = some (Value.int IntKind.i64 d.no)] ⟨hj0, by simp; omega, hrd2_0, hj0, by simp; omega, hrd2_1, hj0, by simp; omega, hrd2_2, trivial⟩ ?_
        refine Yc 23 #[.int .i64 d.place] (some 134) fun w S hG => ?_
        refine (eightW (S := S)).mono ?_
        rintro e18 w18 hR
        refine ⟨_, _, _, hR, ?_⟩
        try simp only [aQ]
        refine Yp (id := 15) (rest := [(15, false), (16, true), (23, false), (24, true), (25, true)]) [.rd 8 [.r 0 (some (.string (ByteArray.mk (q ++ enc8 d.place).toArray)))] 0 10] [134, 127, 133] [(135, .val (.string (ByteArray.mk (q ++ enc8 d.place).toArray)))] [eqRun Tryd.prog .add 9 (Operand.tmp 127) (Operand.tmp 134) (.string (ByteArray.mk q.toArray)) (.string (ByteArray.mk (enc8 d.place).toArray)) (.string (ByteArray.mk (q ++ enc8 d.place).toArray))] ⟨eqRun_cat _ _ (by simp only [enc8_length]; omega), trivial⟩ ?_
        refine Yc 23 #[.int .i64 d.time] (some 142) fun w S hG => ?_
        refine (eightW (S := S)).mono ?_
        rintro e19 w19 hR
        refine ⟨_, _, _, hR, ?_⟩
        try simp only [aQ]
        refine Yp (id := 15) (rest := [(23, false), (24, true), (25, true)]) [.rd 16 [.r 0 (some (.string (ByteArray.mk (q ++ enc8 d.place ++ enc8 d.time).toArray)))] 0 10] [142, 135, 141] [(143, .val (.string (ByteArray.mk (q ++ enc8 d.place ++ enc8 d.time).toArray)))] [eqRun Tryd.prog .add 9 (Operand.tmp 135) (Operand.tmp 142) (.string (ByteArray.mk (q ++ enc8 d.place).toArray)) (.string (ByteArray.mk (enc8 d.time).toArray)) (.string (ByteArray.mk (q ++ enc8 d.place ++ enc8 d.time).toArray))] ⟨eqRun_cat _ _ (by simp only [List.length_append, enc8_length]; omega), trivial⟩ ?_
        refine Yc 23 #[.int .i64 d.no] (some 150) fun w S hG => ?_
        refine (eightW (S := S)).mono ?_
        rintro e20 w20 hR
        refine ⟨_, _, _, hR, ?_⟩
        try simp only [aQ]
        refine Yp (id := 15) (rest := []) [.rd 24 [.r 0 (some (.string (ByteArray.mk (q ++ enc8 d.place ++ enc8 d.time ++ enc8 d.no).toArray)))] 0 10, .rd 25 [] 0 0] [150, 143, 149] [(4, .val (.string (ByteArray.mk (q ++ enc8 d.place ++ enc8 d.time ++ enc8 d.no).toArray)))] [eqRun Tryd.prog .add 9 (Operand.tmp 143) (Operand.tmp 150) (.string (ByteArray.mk (q ++ enc8 d.place ++ enc8 d.time).toArray)) (.string (ByteArray.mk (enc8 d.no).toArray)) (.string (ByteArray.mk (q ++ enc8 d.place ++ enc8 d.time ++ enc8 d.no).toArray))] ⟨eqRun_cat _ _ (by simp only [List.length_append, enc8_length]; omega), trivial⟩ ?_
        refine JR_end ?_
        refine J_eb ?_
        refine Zp [.rd 0 [] 0 0, .rd 1 [] 0 1, .rd 2 [] 0 0] [] [(8, .val (.int .i64 (j + 1)))] [IntKind.i64.wrap (j + (1 : Int)) = j + (1 : Int)] ⟨wrap_i64 (by omega) (by omega), trivial⟩ ?_
        refine J_backx (j + 1, q ++ enc8 d.place ++ enc8 d.time ++ enc8 d.no) [1, 2, 3, 4, 6, 7, 8] [0, 1] [] [0, 1, 2] ?_ ?_ (by kernel_rfl) rfl rfl rfl
        · refine ⟨by simp only; omega, by simp only; omega, ?_⟩
          simp only
          rw [hq, ← take_snoc hj0 hd, List.flatMap_append]
          simp [encDot]
        · simp only
          omega
      · refine J_exit rfl ?_
        refine J_eb ?_
        refine Zp [.rd 0 [] 0 0, .rd 1 [] 0 1, .rd 2 [] 0 0] [124] [(6, .val (.int .i64 (i + 1)))] [IntKind.i64.wrap (i + (1 : Int)) = i + (1 : Int)] ⟨wrap_i64 (by omega) (by omega), trivial⟩ ?_
        refine J_backx (i + 1, q) [1, 2, 3, 4, 6] [0] [] [0, 1] ?_ ?_ (by kernel_rfl) rfl rfl rfl
        · refine ⟨by simp only; omega, by simp only; omega, ?_⟩
          simp only
          have e : o.dots.take j.toNat = o.dots := List.take_of_length_le (by simp at hlt3; omega)
          rw [hq, hr, e, ← take_snoc hi0 ho, List.flatMap_append]
          simp [encOp_head]
        · simp only
          omega
    · have e : m.c.ops.take i.toNat = m.c.ops := List.take_of_length_le (by simp at hlt; omega)
      rw [e, ← encMsg_head] at hr
      subst hr
      have hsz := baSize (encMsg m)
      refine J_exit rfl ?_
      refine J_seq ?_
      refine J_seq ?_
      refine Za (Rds 0 3) [73, 1, 6] [(154, .val (.bool (decide ((↑(ByteArray.mk (encMsg m).toArray).size : Int) > 5996))))] ?_
      refine J_cond (t := decide ((↑(ByteArray.mk (encMsg m).toArray).size : Int) > 5996)) (by kernel_rfl) (by kernel_rfl) (fun hbig => ?_) (fun hbig => ?_)
      · refine J_seq ?_
        refine Za [.rd 0 [] 0 0, .rd 1 [] 0 0] [154] [(3, .val (.int .i64 7))] ?_
        refine Yr [[], []] (.tuple #[.string (ByteArray.mk #[]), .int .i64 7]) fun a w s => ?_
        exact .inl ⟨by simp at hbig; omega, s.ret (by simp) [] [] rfl rfl⟩
      · refine J_skip ?_
        refine J_seq ?_
        refine jT [(0, true), (1, false), (2, true)] [] ?_
        refine Ya (id := 18) (rest := [(1, false), (2, true)]) [.rd 0 [] 0 0] [154] [(155, .val (.string (ByteArray.mk (encMsg m).toArray)))] ?_
        refine Yc 14 #[.string (ByteArray.mk (encMsg m).toArray)] (some 156) fun w S hG => ?_
        refine (sumRB (S := S) (by omega)).mono ?_
        rintro e60 w60 hR
        refine ⟨_, _, _, hR, ?_⟩
        try simp only [aQ]
        refine Ya (id := 18) (rest := []) [.rd 2 [] 0 0] [156, 155] [(9, .val (.int .i64 ((↑(sumN (encMsg m)) : Int))))] ?_
        refine JR_end ?_
        refine J_seq ?_
        refine jT [(0, true), (1, true), (2, true), (3, false), (4, true), (5, true), (6, true), (7, false), (8, true), (9, true), (10, true), (11, false), (12, true), (13, true), (14, false), (15, true), (16, true), (17, true)] [] ?_
        refine Ya (id := 19) (rest := [(3, false), (4, true), (5, true), (6, true), (7, false), (8, true), (9, true), (10, true), (11, false), (12, true), (13, true), (14, false), (15, true), (16, true), (17, true)]) (Rds 0 3) [4] [(157, .val (.string (ByteArray.mk (encMsg m).toArray))), (159, .val (.int .i64 ((↑(sumN (encMsg m)) : Int).fdiv (2 ^ min (Int.toNat 24) IntKind.i64.bits))))] ?_
        refine Yc 15 #[.int .i64 ((↑(sumN (encMsg m)) : Int).fdiv (2 ^ min (Int.toNat 24) IntKind.i64.bits))] (some 160) fun w S hG => ?_
        refine (byteW (S := S)).mono ?_
        rintro e21 w21 hR
        refine ⟨_, _, _, hR, ?_⟩
        try simp only [aQ]
        refine Yp (id := 19) (rest := [(7, false), (8, true), (9, true), (10, true), (11, false), (12, true), (13, true), (14, false), (15, true), (16, true), (17, true)]) [.rd 4 [.r 0 (some (.string (ByteArray.mk (encMsg m ++ [byteI ((↑(sumN (encMsg m)) : Int).fdiv (2 ^ min (Int.toNat 24) IntKind.i64.bits)) 0]).toArray)))] 0 10, .rd 5 [] 0 0, .rd 6 [] 0 0] [160, 157, 159] [(161, .val (.string (ByteArray.mk (encMsg m ++ [byteI ((↑(sumN (encMsg m)) : Int).fdiv (2 ^ min (Int.toNat 24) IntKind.i64.bits)) 0]).toArray))), (163, .val (.int .i64 ((↑(sumN (encMsg m)) : Int).fdiv (2 ^ min (Int.toNat 16) IntKind.i64.bits))))] [eqRun Tryd.prog .add 9 (Operand.tmp 157) (Operand.tmp 160) (.string (ByteArray.mk (encMsg m).toArray)) (.string (ByteArray.mk #[byteI ((↑(sumN (encMsg m)) : Int).fdiv (2 ^ min (Int.toNat 24) IntKind.i64.bits)) 0])) (.string (ByteArray.mk (encMsg m ++ [byteI ((↑(sumN (encMsg m)) : Int).fdiv (2 ^ min (Int.toNat 24) IntKind.i64.bits)) 0]).toArray))] ⟨eqRun_cat _ _ (by simp only [List.length_cons, List.length_nil]; omega), trivial⟩ ?_
        refine Yc 15 #[.int .i64 ((↑(sumN (encMsg m)) : Int).fdiv (2 ^ min (Int.toNat 16) IntKind.i64.bits))] (some 164) fun w S hG => ?_
        refine (byteW (S := S)).mono ?_
        rintro e22 w22 hR
        refine ⟨_, _, _, hR, ?_⟩
        try simp only [aQ]
        refine Yp (id := 19) (rest := [(11, false), (12, true), (13, true), (14, false), (15, true), (16, true), (17, true)]) [.rd 8 [.r 0 (some (.string (ByteArray.mk (encMsg m ++ [byteI ((↑(sumN (encMsg m)) : Int).fdiv (2 ^ min (Int.toNat 24) IntKind.i64.bits)) 0] ++ [byteI ((↑(sumN (encMsg m)) : Int).fdiv (2 ^ min (Int.toNat 16) IntKind.i64.bits)) 0]).toArray)))] 0 10, .rd 9 [] 0 0, .rd 10 [] 0 0] [164, 161, 163] [(165, .val (.string (ByteArray.mk (encMsg m ++ [byteI ((↑(sumN (encMsg m)) : Int).fdiv (2 ^ min (Int.toNat 24) IntKind.i64.bits)) 0] ++ [byteI ((↑(sumN (encMsg m)) : Int).fdiv (2 ^ min (Int.toNat 16) IntKind.i64.bits)) 0]).toArray))), (167, .val (.int .i64 ((↑(sumN (encMsg m)) : Int).fdiv (2 ^ min (Int.toNat 8) IntKind.i64.bits))))] [eqRun Tryd.prog .add 9 (Operand.tmp 161) (Operand.tmp 164) (.string (ByteArray.mk (encMsg m ++ [byteI ((↑(sumN (encMsg m)) : Int).fdiv (2 ^ min (Int.toNat 24) IntKind.i64.bits)) 0]).toArray)) (.string (ByteArray.mk #[byteI ((↑(sumN (encMsg m)) : Int).fdiv (2 ^ min (Int.toNat 16) IntKind.i64.bits)) 0])) (.string (ByteArray.mk (encMsg m ++ [byteI ((↑(sumN (encMsg m)) : Int).fdiv (2 ^ min (Int.toNat 24) IntKind.i64.bits)) 0] ++ [byteI ((↑(sumN (encMsg m)) : Int).fdiv (2 ^ min (Int.toNat 16) IntKind.i64.bits)) 0]).toArray))] ⟨eqRun_cat _ _ (by simp only [List.length_append, List.length_cons, List.length_nil]; omega), trivial⟩ ?_
        refine Yc 15 #[.int .i64 ((↑(sumN (encMsg m)) : Int).fdiv (2 ^ min (Int.toNat 8) IntKind.i64.bits))] (some 168) fun w S hG => ?_
        refine (byteW (S := S)).mono ?_
        rintro e23 w23 hR
        refine ⟨_, _, _, hR, ?_⟩
        try simp only [aQ]
        refine Yp (id := 19) (rest := [(14, false), (15, true), (16, true), (17, true)]) [.rd 12 [.r 0 (some (.string (ByteArray.mk (encMsg m ++ [byteI ((↑(sumN (encMsg m)) : Int).fdiv (2 ^ min (Int.toNat 24) IntKind.i64.bits)) 0] ++ [byteI ((↑(sumN (encMsg m)) : Int).fdiv (2 ^ min (Int.toNat 16) IntKind.i64.bits)) 0] ++ [byteI ((↑(sumN (encMsg m)) : Int).fdiv (2 ^ min (Int.toNat 8) IntKind.i64.bits)) 0]).toArray)))] 0 10, .rd 13 [] 0 0] [168, 165, 167, 9] [(169, .val (.string (ByteArray.mk (encMsg m ++ [byteI ((↑(sumN (encMsg m)) : Int).fdiv (2 ^ min (Int.toNat 24) IntKind.i64.bits)) 0] ++ [byteI ((↑(sumN (encMsg m)) : Int).fdiv (2 ^ min (Int.toNat 16) IntKind.i64.bits)) 0] ++ [byteI ((↑(sumN (encMsg m)) : Int).fdiv (2 ^ min (Int.toNat 8) IntKind.i64.bits)) 0]).toArray))), (170, .val (.int .i64 ((↑(sumN (encMsg m)) : Int))))] [eqRun Tryd.prog .add 9 (Operand.tmp 165) (Operand.tmp 168) (.string (ByteArray.mk (encMsg m ++ [byteI ((↑(sumN (encMsg m)) : Int).fdiv (2 ^ min (Int.toNat 24) IntKind.i64.bits)) 0] ++ [byteI ((↑(sumN (encMsg m)) : Int).fdiv (2 ^ min (Int.toNat 16) IntKind.i64.bits)) 0]).toArray)) (.string (ByteArray.mk #[byteI ((↑(sumN (encMsg m)) : Int).fdiv (2 ^ min (Int.toNat 8) IntKind.i64.bits)) 0])) (.string (ByteArray.mk (encMsg m ++ [byteI ((↑(sumN (encMsg m)) : Int).fdiv (2 ^ min (Int.toNat 24) IntKind.i64.bits)) 0] ++ [byteI ((↑(sumN (encMsg m)) : Int).fdiv (2 ^ min (Int.toNat 16) IntKind.i64.bits)) 0] ++ [byteI ((↑(sumN (encMsg m)) : Int).fdiv (2 ^ min (Int.toNat 8) IntKind.i64.bits)) 0]).toArray))] ⟨eqRun_cat _ _ (by simp only [List.length_append, List.length_cons, List.length_nil]; omega), trivial⟩ ?_
        refine Yc 15 #[.int .i64 ((↑(sumN (encMsg m)) : Int))] (some 171) fun w S hG => ?_
        refine (byteW (S := S)).mono ?_
        rintro e24 w24 hR
        refine ⟨_, _, _, hR, ?_⟩
        try simp only [aQ]
        refine Yp (id := 19) (rest := []) [.rd 15 [.r 0 (some (.string (ByteArray.mk (encMsg m ++ [byteI ((↑(sumN (encMsg m)) : Int).fdiv (2 ^ min (Int.toNat 24) IntKind.i64.bits)) 0] ++ [byteI ((↑(sumN (encMsg m)) : Int).fdiv (2 ^ min (Int.toNat 16) IntKind.i64.bits)) 0] ++ [byteI ((↑(sumN (encMsg m)) : Int).fdiv (2 ^ min (Int.toNat 8) IntKind.i64.bits)) 0] ++ [byteI (↑(sumN (encMsg m)) : Int) 0]).toArray)))] 0 10, .rd 16 [] 0 0, .rd 17 [] 0 0] [171, 169, 170] [(2, .val (.string (ByteArray.mk (encMsg m ++ [byteI ((↑(sumN (encMsg m)) : Int).fdiv (2 ^ min (Int.toNat 24) IntKind.i64.bits)) 0] ++ [byteI ((↑(sumN (encMsg m)) : Int).fdiv (2 ^ min (Int.toNat 16) IntKind.i64.bits)) 0] ++ [byteI ((↑(sumN (encMsg m)) : Int).fdiv (2 ^ min (Int.toNat 8) IntKind.i64.bits)) 0] ++ [byteI (↑(sumN (encMsg m)) : Int) 0]).toArray)))] [eqRun Tryd.prog .add 9 (Operand.tmp 169) (Operand.tmp 171) (.string (ByteArray.mk (encMsg m ++ [byteI ((↑(sumN (encMsg m)) : Int).fdiv (2 ^ min (Int.toNat 24) IntKind.i64.bits)) 0] ++ [byteI ((↑(sumN (encMsg m)) : Int).fdiv (2 ^ min (Int.toNat 16) IntKind.i64.bits)) 0] ++ [byteI ((↑(sumN (encMsg m)) : Int).fdiv (2 ^ min (Int.toNat 8) IntKind.i64.bits)) 0]).toArray)) (.string (ByteArray.mk #[byteI (↑(sumN (encMsg m)) : Int) 0])) (.string (ByteArray.mk (encMsg m ++ [byteI ((↑(sumN (encMsg m)) : Int).fdiv (2 ^ min (Int.toNat 24) IntKind.i64.bits)) 0] ++ [byteI ((↑(sumN (encMsg m)) : Int).fdiv (2 ^ min (Int.toNat 16) IntKind.i64.bits)) 0] ++ [byteI ((↑(sumN (encMsg m)) : Int).fdiv (2 ^ min (Int.toNat 8) IntKind.i64.bits)) 0] ++ [byteI (↑(sumN (encMsg m)) : Int) 0]).toArray))] ⟨eqRun_cat _ _ (by simp only [List.length_append, List.length_cons, List.length_nil]; omega), trivial⟩ ?_
        refine JR_end ?_
        refine Yr [[], []] (.tuple #[.string (ByteArray.mk (encMsg m ++ [byteI ((↑(sumN (encMsg m)) : Int).fdiv (2 ^ min (Int.toNat 24) IntKind.i64.bits)) 0] ++ [byteI ((↑(sumN (encMsg m)) : Int).fdiv (2 ^ min (Int.toNat 16) IntKind.i64.bits)) 0] ++ [byteI ((↑(sumN (encMsg m)) : Int).fdiv (2 ^ min (Int.toNat 8) IntKind.i64.bits)) 0] ++ [byteI (↑(sumN (encMsg m)) : Int) 0]).toArray), .int .i64 0]) fun a w s => ?_
        have e4 : encMsg m ++ [byteI ((sumN (encMsg m) : Int).fdiv (2 ^ min (Int.toNat 24) IntKind.i64.bits)) 0] ++ [byteI ((sumN (encMsg m) : Int).fdiv (2 ^ min (Int.toNat 16) IntKind.i64.bits)) 0] ++ [byteI ((sumN (encMsg m) : Int).fdiv (2 ^ min (Int.toNat 8) IntKind.i64.bits)) 0] ++ [byteI (sumN (encMsg m) : Int) 0] = encMsg m ++ enc4 (sumN (encMsg m)) := by
          rw [byteI_shr (d := 2 ^ min (Int.toNat 24) IntKind.i64.bits) 3 rfl, byteI_shr (d := 2 ^ min (Int.toNat 16) IntKind.i64.bits) 2 rfl, byteI_shr (d := 2 ^ min (Int.toNat 8) IntKind.i64.bits) 1 rfl]
          simp [enc4]
        rw [e4]
        exact .inr ⟨by simp at hbig; omega, s.ret (by simp) [] [] rfl rfl⟩
end Go.Proofs.YtonhcoeneahpaaaDoor
end
section
namespace Go.Proofs.YtonhcoeneahpaaaDoor
open Go Go.Sx
set_option maxHeartbeats 4000000 in
theorem sameInts {w : World} {S : Nat → Prop} {a b : Option Addr} {n m c d : Nat} {xs ys : List Int} (ha : Rep w S (.slice a n c) (dInts xs)) (hb : Rep w S (.slice b m d) (dInts ys)) (hm : xs.length ≤ 1000000) :
    Calls Tryd.prog 40 #[.slice a n c, .slice b m d] w fun e w' => Ret [] w S w' e (.bool (decide (xs = ys))) [] [] := by
  obtain rfl := rep_ints_len ha
  obtain rfl := rep_ints_len hb
  refine ep40 (args := [.slice a xs.length c, .slice b ys.length d]) (G := [(_, dInts xs), (_, dInts ys)]) (by kernel_rfl) (.cons ha (.cons hb (.nil _ _))) ?_
  refine J_seq ?_
  refine Za [.rd 0 [] 0 0] [] [(4, .val (.bool false))] ?_
  refine J_seq ?_
  refine J_seq ?_
  refine Za (Rds 0 5) [] [(10, .val (.bool ((↑xs.length : Int) != (↑ys.length : Int))))] ?_
  refine J_cond (t := (↑xs.length : Int) != (↑ys.length : Int)) (by kernel_rfl) (by kernel_rfl) (fun h => ?_) (fun h => ?_)
  · refine J_seq ?_
    refine Za [.rd 0 [] 0 0] [10] [] ?_
    refine Yr [[]] (.bool false) fun a w s => ?_
    have e : decide (xs = ys) = false := by
      simp only [decide_eq_false_iff_not]
      rintro rfl
      simp at h
    rw [e]
    exact s.ret (by simp) [] [] rfl rfl
  · have hl : xs.length = ys.length := by simp at h; omega
    refine J_skip ?_
    refine J_seq ?_
    refine J_seq ?_
    refine Za [.rd 0 [] 0 0] [10] [(5, .val (.int .i64 0))] ?_
    refine J_block ?_
    refine J_loopx (fun i : Int => [(0, .val (.slice a xs.length c)), (1, .val (.slice b ys.length d)), (4, .val (.bool false)), (5, .val (.int .i64 i))]) (fun i : Int => []) (fun i : Int => []) (fun i : Int => [(.slice a xs.length c, (dInts xs)), (.slice b ys.length d, (dInts ys))]) (fun i : Int => (xs.length - i).toNat) (fun i : Int => (0 ≤ i ∧ i ≤ xs.length ∧ ∀ j : Nat, j < i.toNat → xs[j]? = ys[j]?)) 0 [0, 1, 4, 5] [] [] [0, 1] ?_ (by kernel_rfl) rfl rfl rfl ?_
    · exact ⟨by simp, by omega, by simp⟩
    rintro i ⟨hi0, hi, hsame⟩
    refine J_seq ?_
    refine J_seq ?_
    refine Za (Rds 0 4) [] [(14, .val (.bool (decide (i < (↑xs.length : Int)))))] ?_
    refine J_cond (t := decide (i < (↑xs.length : Int))) (by kernel_rfl) (by kernel_rfl) (fun hlt => ?_) (fun hlt => ?_)
    · have hlt2 : i < xs.length := by simpa using hlt
      obtain ⟨x, hx⟩ : ∃ x, xs[i.toNat]? = some x := ⟨_, List.getElem?_eq_getElem (by omega)⟩
      obtain ⟨y, hy⟩ : ∃ y, ys[i.toNat]? = some y := ⟨_, List.getElem?_eq_getElem (by omega)⟩
      refine J_read0 0 rfl i.toNat (map_at hx) (by kernel_rfl) (fun b1 off1 cs1 ty1 fz1 ha1 hrd1 => ?_)
      cases ha1
      have hrd1_0 := rd0 (hrd1 0 _ rfl)
      refine J_read0 1 rfl i.toNat (map_at hy) (by kernel_rfl) (fun b2 off2 cs2 ty2 fz2 ha2 hrd2 => ?_)
      cases ha2
      have hrd2_0 := rd0 (hrd2 0 _ rfl)
      try simp only [aQ]
      refine J_skip ?_
      refine J_seq ?_
      refine J_block ?_
      refine J_seq ?_
      refine Zp [.rd 0 [] 0 0, .rd 1 [] 0 0, .rd 2 [] 0 2, .rd 3 [.r 0 (some (.int .i64 x))] 0 0, .rd 4 [] 0 0, .rd 5 [] 0 0, .rd 6 [] 0 2, .rd 7 [.r 1 (some (.int .i64 y))] 0 0, .rd 8 [] 0 0] [14] [(25, .val (.bool (x != y)))] [(0 : Int) ≤ i, i < (↑xs.length : Int), cs1[off1 + i.toNat * (1 : Nat)]? = some (Value.int IntKind.i64 x), (0 : Int) ≤ i, i < (↑ys.length : Int), cs2[off2 + i.toNat * (1 : Nat)]? = some (Value.int IntKind.i64 y)] ⟨hi0, hlt2, hrd1_0, hi0, by omega, hrd2_0, trivial⟩ ?_
      refine J_cond (t := x != y) (by kernel_rfl) (by kernel_rfl) (fun hne => ?_) (fun hne => ?_)
      · refine J_seq ?_
        refine Za [.rd 0 [] 0 0] [25] [] ?_
        refine Yr [[]] (.bool false) fun a w s => ?_
        have e : decide (xs = ys) = false := by
          simp only [decide_eq_false_iff_not]
          rintro rfl
          rw [hx] at hy
          cases hy
          simp at hne
        rw [e]
        exact s.ret (by simp) [] [] rfl rfl
      · refine J_skip ?_
        refine J_eb ?_
        refine Zp [.rd 0 [] 0 0, .rd 1 [] 0 1, .rd 2 [] 0 0] [25] [(5, .val (.int .i64 (i + 1)))] [IntKind.i64.wrap (i + (1 : Int)) = i + (1 : Int)] ⟨wrap_i64 (by omega) (by omega), trivial⟩ ?_
        refine J_backx (i + 1) [0, 1, 4, 5] [] [] [0, 1] ?_ ?_ (by kernel_rfl) rfl rfl rfl
        · refine ⟨by omega, by omega, fun j hj => ?_⟩
          by_cases hji : j = i.toNat
          · subst hji
            rw [hx, hy]
            simpa using hne
          · exact hsame j (by omega)
        · omega
    · refine J_exit rfl ?_
      refine J_seq ?_
      refine Za [.rd 0 [] 0 0] [14, 0, 1, 5] [(4, .val (.bool true))] ?_
      refine Yr [[]] (.bool true) fun a w s => ?_
      have e : decide (xs = ys) = true := by
        simp only [decide_eq_true_eq]
        apply List.ext_getElem?
        intro j
        by_cases hj : j < xs.length
        · exact hsame j (by simp at hlt; omega)
        · rw [List.getElem?_eq_none (by omega), List.getElem?_eq_none (by omega)]
      rw [e]
      exact s.ret (by simp) [] [] rfl rfl
end Go.Proofs.YtonhcoeneahpaaaDoor
end
section
namespace Go.Proofs.YtonhcoeneahpaaaDoor
open Go Go.Sx
set_option maxHeartbeats 4000000 in
theorem ownCommit {w0 : World} {S : Nat → Prop} {a1 a2 : Option Addr} {n1 c1 n2 c2 : Nat} {c : ComT} (h1 : Rep w0 S (.slice a1 n1 c1) (dInts c.when)) (h2 : Rep w0 S (.slice a2 n2 c2) (.sl 7 (c.ops.map eOp))) (hl1 : c.when.length ≤ 1000000) (hl2 : c.ops.length ≤ 1000000) (hl3 : ∀ o ∈ c.ops, o.dots.length ≤ 1000000) :
    Calls Tryd.prog 22 #[.agg #[.slice a1 n1 c1, .int .i64 c.place, .slice a2 n2 c2]] w0 fun e w' => ∃ b1 m1 d1 b2 m2 d2, Ret [] w0 S w' e (.agg #[.slice b1 m1 d1, .int .i64 c.place, .slice b2 m2 d2]) [] [(.slice b1 m1 d1, dInts c.when), (.slice b2 m2 d2, .sl 7 (c.ops.map eOp))] := by
  obtain rfl := rep_ints_len h1
  have e2 := h2.slen
  rw [List.length_map] at e2
  subst e2
  refine ep22 (args := [.agg #[.slice a1 c.when.length c1, .int .i64 c.place, .slice a2 c.ops.length c2]]) (G := [(_, dInts c.when), (_, .sl 7 (c.ops.map eOp))]) (by kernel_rfl) (.cons h1 (.cons h2 (.nil _ _))) ?_
  refine J_stp (stp_accm eI 3 1) ?_
  try simp only [aQ]
  refine J_seq ?_
  refine Zm [.wr 0 [] 0, .wr 1 [] 0] [] [0] (fun nu1 => [(1, .val (.pointer (some (⟨nu1 0, 0, none⟩)))), (2, .val (.pointer (some (⟨nu1 1, 0, none⟩))))]) (fun nu1 => [(nu1 0, .cells #[.slice a1 c.when.length c1, .int .i64 c.place, .slice a2 c.ops.length c2] 25 (0, 0)), (nu1 1, .cells #[.slice none 0 0, .int .i64 0, .slice none 0 0] 25 (0, 0))]) (fun nu1 => ?_)
  refine J_seq ?_
  refine Zm [.rd 0 [] 0 0, .rd 1 [.o 0 none] 0 0, .rd 2 [] 0 0, .wr 3 [] 0, .wr 4 [.o 2 none, .o 2 none, .o 2 none] 0] [(4, [])] [] (fun nu2 => [(3, .val (.pointer (some (⟨nu2 0, 0, none⟩))))]) (fun nu2 => [(nu1 0, .cells #[.slice a1 c.when.length c1, .int .i64 c.place, .slice a2 c.ops.length c2] 25 (0, 0)), (nu1 1, .cells #[.slice none 0 0, .int .i64 0, .slice none 0 0] 25 (0, 0)), (nu2 0, .cells #[.slice none 0 0, .int .i64 c.place, .slice none 0 0] 25 (0, 0))]) (fun nu2 => ?_)
  refine J_seq ?_
  refine jT [(0, true), (1, true), (2, true), (3, true), (4, false), (5, true), (6, false)] [] ?_
  refine Ya (id := 2) (rest := [(4, false), (5, true), (6, false)]) [.rd 0 [] 0 0, .rd 1 [.o 2 none] 0 0, .rd 2 [] 0 0, .rd 3 [.o 0 none] 0 0] [] [(11, .val (.slice none 0 0)), (13, .val (.slice a1 c.when.length c1))] ?_
  refine JR_appm 0 22 3 1 8 (.int .i64 0) (a0 := none) (len := 0) (cap0 := 0) (ax := a1) (m := c.when.length) (c := c1) (dst := (some 14)) c.when (by kernel_rfl) (by kernel_rfl) (by kernel_rfl) (by kernel_rfl) rfl (by decide) rfl (fun _ _ _ s => src_fact s 0 rfl (by decide)) (by simp only [maxLen]; omega) (by omega) (fun av1 cv1 => ?_)
  rw [Nat.zero_add]
  try simp only [aQ]
  refine Ym (id := 2) (rest := []) [.rd 5 [] 0 0, .wr 6 [.o 2 none] 0] [14, 11, 13] (fun _ => []) (fun _ => [(nu1 0, .cells #[.slice a1 c.when.length c1, .int .i64 c.place, .slice a2 c.ops.length c2] 25 (0, 0)), (nu1 1, .cells #[.slice none 0 0, .int .i64 0, .slice none 0 0] 25 (0, 0)), (nu2 0, .cells #[.slice av1 c.when.length cv1, .int .i64 c.place, .slice none 0 0] 25 (0, 0))]) [] (fun _ => ?_)
  try simp only [aQ]
  refine JR_end ?_
  try simp only [aQ]
  refine J_seq ?_
  try simp only [aQ]
  refine J_seq ?_
  try simp only [aQ]
  refine Za [.rd 0 [] 0 0] [] [(4, .val (.int .i64 0))] ?_
  try simp only [aQ]
  refine J_block ?_
  try simp only [aQ]
  refine J_stp (stp_freeze 0 rfl) ?_
  refine J_stp (stp_accm eOp 52 7) ?_
  refine J_loopx (fun x : AccI => [(1, .val (.pointer (some (⟨nu1 0, 0, none⟩)))), (2, .val (.pointer (some (⟨nu1 1, 0, none⟩)))), (3, .val (.pointer (some (⟨nu2 0, 0, none⟩)))), (4, .val (.int .i64 x.i))]) (fun x : AccI => [(nu1 0, .cells #[.slice a1 c.when.length c1, .int .i64 c.place, .slice a2 c.ops.length c2] 25 (0, 0)), (nu1 1, .cells #[.slice none 0 0, .int .i64 0, .slice none 0 0] 25 (0, 0)), (nu2 0, .cells #[.slice av1 c.when.length cv1, .int .i64 c.place, .slice x.a x.k x.c] 25 (0, 0))]) (fun x : AccI => [cAcc (.slice x.a x.k x.c) 52 7 ((List.take x.i.toNat c.ops).map eOp)]) (fun x : AccI => [(.slice a1 c.when.length c1, (dInts c.when)), (.slice a2 c.ops.length c2, (D.sl 7 (List.map eOp c.ops))), (.slice av1 c.when.length cv1, (D.sl 1 (List.map eI c.when)))]) (fun x : AccI => (c.ops.length - x.i).toNat) (fun x : AccI => (0 ≤ x.i ∧ x.i ≤ c.ops.length)) ⟨0, none, 0, 0⟩ [1, 2, 3, 4] [0, 1, 2] [0] [0, 1, 2] ?_ (by kernel_rfl) rfl rfl rfl ?_
  · exact ⟨by simp, by simp⟩
  rintro ⟨i, av, k, cv⟩ ⟨hi0, hi⟩
  dsimp only at hi0 hi ⊢
  refine J_stpx (stp_acclen 0 rfl) fun _ hk => ?_
  have hk2 : k ≤ c.ops.length := by simp at hk; omega
  refine J_seq ?_
  refine J_seq ?_
  refine Za [.rd 0 [] 0 0, .rd 1 [] 0 0, .rd 2 [.o 0 none] 0 0, .rd 3 [] 0 0, .rd 4 [] 0 0] [] [(20, .val (.bool (decide (i < (↑c.ops.length : Int)))))] ?_
  refine J_cond (t := decide (i < (↑c.ops.length : Int))) (by kernel_rfl) (by kernel_rfl) (fun hlt => ?_) (fun hlt => ?_)
  · have hlt2 : i < c.ops.length := by simpa using hlt
    obtain ⟨o, ho⟩ : ∃ o, c.ops[i.toNat]? = some o := ⟨_, List.getElem?_eq_getElem (by omega)⟩
    have hd : (o.dots.map eDot).length ≤ 1000000 := by simpa using hl3 o (List.mem_of_getElem? ho)
    refine J_read1 1 rfl i.toNat (map_at ho) (by kernel_rfl) (fun b1 off1 cs1 ty1 fz1 a1_0 c1_0 ha1 hrd1 => ?_)
    cases ha1
    have hrd1_0 := rd0 (hrd1 0 _ rfl)
    have hrd1_1 := hrd1 1 _ rfl
    have hrd1_2 := hrd1 2 _ rfl
    have hrd1_3 := hrd1 3 _ rfl
    have hrd1_4 := hrd1 4 _ rfl
    have hrd1_5 := hrd1 5 _ rfl
    have hrd1_6 := hrd1 6 _ rfl
    refine J_stp (stp_accm eDot 61 3) ?_
    try simp only [aQ]
    refine J_skip ?_
    refine J_seq ?_
    refine J_block ?_
    refine J_seq ?_
    refine Zn [.rd 0 [] 0 0, .rd 1 [.o 0 none] 0 0, .rd 2 [] 0 0, .rd 3 [] 0 2, .rd 4 [.r 0 (some (.int .i64 o.no)), .r 0 (some (.string o.key)), .r 0 (some (.int .i64 o.kind)), .r 0 (some (.string o.text)), .r 0 (some (.int .i64 o.n)), .r 0 (some (.bool o.remove)), .r 0 (some (.slice (a1_0, c1_0).fst ((List.map eDot o.dots).length) c1_0))] 0 0, .wr 5 [] 0, .wr 6 [.o 3 none, .o 3 none, .o 3 none, .o 3 none, .o 3 none, .o 3 none, .o 3 none] 0] [(6, [])] [20] (fun nu3 => [(5, .val (.pointer (some (⟨nu3 0, 0, none⟩))))]) (fun nu3 => [(nu1 0, .cells #[.slice a1 c.when.length c1, .int .i64 c.place, .slice (some (⟨b1, off1, none⟩)) c.ops.length c2] 25 (0, 0)), (nu1 1, .cells #[.slice none 0 0, .int .i64 0, .slice none 0 0] 25 (0, 0)), (nu2 0, .cells #[.slice av1 c.when.length cv1, .int .i64 c.place, .slice av k cv] 25 (0, 0)), (nu3 0, .cells #[.int .i64 o.no, .string o.key, .int .i64 o.kind, .string o.text, .int .i64 o.n, .bool o.remove, .slice (a1_0, c1_0).fst ((List.map eDot o.dots).length) c1_0] 52 (0, 0))]) (fun nu3 => [(0 : Int) ≤ i, i < (↑c.ops.length : Int), cs1[off1 + i.toNat * (7 : Nat)]? = some (Value.int IntKind.i64 o.no), cs1[off1 + i.toNat * (7 : Nat) + (1 : Nat)]? = some (Value.string o.key), cs1[off1 + i.toNat * (7 : Nat) + (2 : Nat)]? = some (Value.int IntKind.i64 o.kind), cs1[off1 + i.toNat * (7 : Nat) + (3 : Nat)]? = some (Value.string o.text), cs1[off1 + i.toNat * (7 : Nat) + (4 : Nat)]? = some (Value.int IntKind.i64 o.n), cs1[off1 + i.toNat * (7 : Nat) + (5 : Nat)]? = some (Value.bool o.remove), cs1[off1 + i.toNat * (7 : Nat) + (6 : Nat)]? = some (Value.slice (a1_0, c1_0).fst (List.map eDot o.dots).length (a1_0, c1_0).snd)]) (fun _ => ⟨hi0, hlt2, hrd1_0, hrd1_1, hrd1_2, hrd1_3, hrd1_4, hrd1_5, hrd1_6, trivial⟩) (fun nu3 => ?_)
    refine J_seq ?_
    refine Za [.rd 0 [] 0 0] [] [(6, .val (.slice none 0 0))] ?_
    refine J_seq ?_
    refine jT [(0, true), (1, true), (2, true), (3, true), (4, true), (5, true), (6, true), (7, false), (8, true), (9, false)] [] ?_
    refine Yp (id := 8) (rest := [(7, false), (8, true), (9, false)]) [.rd 0 [] 0 0, .rd 1 [] 0 0, .rd 2 [.o 0 none] 0 0, .rd 3 [] 0 0, .rd 4 [] 0 2, .rd 5 [] 0 0, .rd 6 [.r 0 (some (.slice (a1_0, c1_0).fst ((List.map eDot o.dots).length) c1_0))] 0 0] [] [(28, .val (.slice none 0 0)), (34, .val (.slice (a1_0, c1_0).fst ((List.map eDot o.dots).length) c1_0))] [(0 : Int) ≤ i, i < (↑c.ops.length : Int), cs1[off1 + i.toNat * (7 : Nat) + (6 : Nat)]? = some (Value.slice (a1_0, c1_0).fst (List.map eDot o.dots).length (a1_0, c1_0).snd)] ⟨hi0, hlt2, hrd1_6, trivial⟩ ?_
    refine JR_appm 1 50 61 3 24 (.agg #[.int .i64 0, .int .i64 0, .int .i64 0]) (a0 := none) (len := 0) (cap0 := 0) (ax := (a1_0, c1_0).fst) (m := (List.map eDot o.dots).length) (c := c1_0) (dst := (some 35)) o.dots (by kernel_rfl) (by kernel_rfl) (by kernel_rfl) (by kernel_rfl) rfl (by decide) rfl (fun _ _ _ s => src_fact s 3 rfl (by decide)) (by simp only [maxLen]; omega) (by omega) (fun av2 cv2 => ?_)
    rw [Nat.zero_add]
    try simp only [aQ]
    refine Ym (id := 8) (rest := []) [.rd 8 [] 0 0, .wr 9 [.o 3 none] 0] [35, 28, 34] (fun _ => []) (fun _ => [(nu1 0, .cells #[.slice a1 c.when.length c1, .int .i64 c.place, .slice (some (⟨b1, off1, none⟩)) c.ops.length c2] 25 (0, 0)), (nu1 1, .cells #[.slice none 0 0, .int .i64 0, .slice none 0 0] 25 (0, 0)), (nu2 0, .cells #[.slice av1 c.when.length cv1, .int .i64 c.place, .slice av k cv] 25 (0, 0)), (nu3 0, .cells #[.int .i64 o.no, .string o.key, .int .i64 o.kind, .string o.text, .int .i64 o.n, .bool o.remove, .slice av2 ((List.map eDot o.dots).length) cv2] 52 (0, 0))]) [] (fun _ => ?_)
    try simp only [aQ]
    refine JR_end ?_
    try simp only [aQ]
    refine J_stp (stp_freeze 1 rfl) ?_
    try simp only [aQ]
    refine jT [(0, true), (1, true), (2, true), (3, false), (4, false), (5, true), (6, false)] [] ?_
    refine Ym (id := 9) (rest := [(4, false), (5, true), (6, false)]) [.rd 0 [] 0 0, .rd 1 [.o 2 none] 0 0, .rd 2 [.o 3 none, .o 3 none, .o 3 none, .o 3 none, .o 3 none, .o 3 none, .o 3 none] 0 0, .wr 3 [] 0] [] (fun nu4 => [(38, .val (.slice av k cv)), (40, .val (.slice (some (⟨nu4 0, 0, none⟩)) 1 1))]) (fun nu4 => [(nu1 0, .cells #[.slice a1 c.when.length c1, .int .i64 c.place, .slice (some (⟨b1, off1, none⟩)) c.ops.length c2] 25 (0, 0)), (nu1 1, .cells #[.slice none 0 0, .int .i64 0, .slice none 0 0] 25 (0, 0)), (nu2 0, .cells #[.slice av1 c.when.length cv1, .int .i64 c.place, .slice av k cv] 25 (0, 0)), (nu3 0, .cells #[.int .i64 o.no, .string o.key, .int .i64 o.kind, .string o.text, .int .i64 o.n, .bool o.remove, .slice av2 ((List.map eDot o.dots).length) cv2] 52 (0, 0)), (nu4 0, .cells #[.int .i64 o.no, .string o.key, .int .i64 o.kind, .string o.text, .int .i64 o.n, .bool o.remove, .slice av2 ((List.map eDot o.dots).length) cv2] 52 (0, 0))]) [] (fun nu4 => ?_)
    refine JR_appm 0 23 52 7 88 (.agg #[.int .i64 0, .string (ByteArray.mk #[]), .int .i64 0, .string (ByteArray.mk #[]), .int .i64 0, .bool false, .slice none 0 0]) (a0 := av) (len := k) (cap0 := cv) (ax := (some (⟨nu4 0, 0, none⟩))) (m := 1) (c := 1) (dst := (some 41)) [o] (by kernel_rfl) (by kernel_rfl) (by kernel_rfl) (by kernel_rfl) rfl (by decide) rfl (fun _ _ _ s => src_one s 4 rfl rfl ⟨.inl ⟨rfl, rfl⟩, ⟨.inl ⟨rfl, rfl⟩, ⟨.inl ⟨rfl, rfl⟩, ⟨.inl ⟨rfl, rfl⟩, ⟨.inl ⟨rfl, rfl⟩, ⟨.inl ⟨rfl, rfl⟩, ⟨.inr (.inl (List.mem_of_getElem? (i := 4) rfl)), trivial⟩⟩⟩⟩⟩⟩⟩) (by simp only [maxLen]; omega) (by omega) (fun av3 cv3 => ?_)
    try simp only [aQ]
    refine Ym (id := 9) (rest := []) [.rd 5 [] 0 0, .wr 6 [.o 2 none] 0] [41, 38, 40] (fun _ => []) (fun _ => [(nu1 0, .cells #[.slice a1 c.when.length c1, .int .i64 c.place, .slice (some (⟨b1, off1, none⟩)) c.ops.length c2] 25 (0, 0)), (nu1 1, .cells #[.slice none 0 0, .int .i64 0, .slice none 0 0] 25 (0, 0)), (nu2 0, .cells #[.slice av1 c.when.length cv1, .int .i64 c.place, .slice av3 (k + 1) cv3] 25 (0, 0)), (nu3 0, .cells #[.int .i64 o.no, .string o.key, .int .i64 o.kind, .string o.text, .int .i64 o.n, .bool o.remove, .slice av2 ((List.map eDot o.dots).length) cv2] 52 (0, 0)), (nu4 0, .cells #[.int .i64 o.no, .string o.key, .int .i64 o.kind, .string o.text, .int .i64 o.n, .bool o.remove, .slice av2 ((List.map eDot o.dots).length) cv2] 52 (0, 0))]) [] (fun _ => ?_)
    try simp only [aQ]
    refine JR_end ?_
    try simp only [aQ]
    refine J_eb ?_
    try simp only [aQ]
    refine Zp [.rd 0 [] 0 0, .rd 1 [] 0 1, .rd 2 [] 0 0] [] [(4, .val (.int .i64 (i + 1)))] [IntKind.i64.wrap (i + (1 : Int)) = i + (1 : Int)] ⟨wrap_i64 (by omega) (by omega), trivial⟩ ?_
    try simp only [aQ]
    rw [take_snoc hi0 ho]
    refine J_backx ⟨i + 1, av3, k + 1, cv3⟩ [1, 2, 3, 4] [0, 1, 2] [0] [0, 1, 2] ?_ ?_ (by kernel_rfl) rfl rfl rfl
    · exact ⟨by simp only; omega, by simp only; omega⟩
    · simp only
      omega
  · refine J_exit rfl ?_
    refine J_seq ?_
    refine Zm [.rd 0 [.o 2 none, .o 2 none, .o 2 none] 0 0, .wr 1 [.o 1 none, .o 1 none, .o 1 none] 0] [(1, [1])] [20, 1, 3, 4] (fun _ => []) (fun _ => [(nu1 0, .cells #[.slice a1 c.when.length c1, .int .i64 c.place, .slice a2 c.ops.length c2] 25 (0, 0)), (nu1 1, .cells #[.slice av1 c.when.length cv1, .int .i64 c.place, .slice av k cv] 25 (0, 0)), (nu2 0, .cells #[.slice av1 c.when.length cv1, .int .i64 c.place, .slice av k cv] 25 (0, 0))]) (fun _ => ?_)
    refine Yr [[.o 1 none, .o 1 none, .o 1 none]] (.agg #[.slice av1 c.when.length cv1, .int .i64 c.place, .slice av k cv]) fun a w s => ?_
    have e : List.take i.toNat c.ops = c.ops := List.take_of_length_le (by simp at hlt; omega)
    rw [e] at hk s
    rw [List.length_map] at hk
    have s2 := s.stp (stp_freeze 0 rfl)
    exact ⟨_, _, _, _, _, _, s2.ret (by simp) [] [2, 3] rfl rfl⟩
end Go.Proofs.YtonhcoeneahpaaaDoor
end
section
namespace Go.Proofs.YtonhcoeneahpaaaDoor
open Go Go.Sx
set_option maxHeartbeats 4000000 in
theorem partI {P : Program} {t : TypeId} {w : World} {cs : Array Value} {off : Nat} {v : Value} (ht : P.underlying t = some (.int .i64)) (hv : cs[off]? = some v) : (part t cs off).run P w = .ok v w := by
  simp [part, isAgg, underlying, ht, hv, Result.andThen]
set_option maxHeartbeats 4000000 in
theorem eqInt {P : Program} {t : TypeId} (ht : P.underlying t = some (.int .i64)) (d : Nat) (x y : Int) (w : World) : (Op.equalIn (d + 1) t (.int .i64 x) (.int .i64 y)).run P w = .ok (x == y) w := by
  simp [Op.equalIn, run_underlying ht]
set_option maxHeartbeats 4000000 in
theorem eqDot (d : Nat) (a b c a' b' c' : Int) (w : World) : (Op.equalIn (d + 2) 61 (.agg #[.int .i64 a, .int .i64 b, .int .i64 c]) (.agg #[.int .i64 a', .int .i64 b', .int .i64 c'])).run Tryd.prog w = .ok (decide (a = a' ∧ b = b' ∧ c = c')) w := by
  have hs : Tryd.prog.stoodInHeld 61 = false := by kernel_rfl
  rw [Op.equalIn]
  by_cases h1 : a = a' <;> by_cases h2 : b = b' <;> by_cases h3 : c = c' <;>
  simp [run_underlying Tryd.underlying61, hs, eqInt Tryd.underlying3, partI Tryd.underlying3, Result.andThen, h1, h2, h3]
theorem eqRun_neq_61 {x y : Operand} {a b c a' b' c' : Int} : eqRun Tryd.prog .neq 61 x y (.agg #[.int .i64 a, .int .i64 b, .int .i64 c]) (.agg #[.int .i64 a', .int .i64 b', .int .i64 c']) (.bool (!decide (a = a' ∧ b = b' ∧ c = c'))) := fun w => by
  have h : (Op.equal 61 (.agg #[.int .i64 a, .int .i64 b, .int .i64 c]) (.agg #[.int .i64 a', .int .i64 b', .int .i64 c'])).run Tryd.prog w = .ok (decide (a = a' ∧ b = b' ∧ c = c')) w := eqDot 9998 a b c a' b' c' w
  refine ⟨?_, by simp only [binOp, Sem.run_bind, h, Result.andThen_ok, Sem.run_pure]⟩
  have hg : Tryd.prog.eqGuardType Tryd.prog.depth 61 = false := by kernel_rfl
  simp [eqGuard, hg]
end Go.Proofs.YtonhcoeneahpaaaDoor
end
section
namespace Go.Proofs.YtonhcoeneahpaaaDoor
open Go Go.Sx
set_option maxHeartbeats 4000000 in
theorem sameDots_eq {w0 : World} {S : Nat → Prop} {a b : Option Addr} {n m c d : Nat} {l : List DotT} (ha : Rep w0 S (.slice a n c) (.sl 3 (l.map eDot))) (hb : Rep w0 S (.slice b m d) (.sl 3 (l.map eDot))) (hl : l.length ≤ 1000000) :
    Calls Tryd.prog 48 #[.slice a n c, .slice b m d] w0 fun e w' => Ret [] w0 S w' e (.bool true) [] [] := by
  have e1 := ha.slen
  have e2 := hb.slen
  rw [List.length_map] at e1 e2
  subst e1 e2
  refine ep48 (args := [.slice a l.length c, .slice b l.length d]) (G := [(_, .sl 3 (l.map eDot)), (_, .sl 3 (l.map eDot))]) (by kernel_rfl) (.cons ha (.cons hb (.nil _ _))) ?_
  refine J_seq ?_
  refine Za [.rd 0 [] 0 0] [] [(4, .val (.bool false))] ?_
  refine J_seq ?_
  refine J_seq ?_
  refine Zp (Rds 0 4 ++ [.rd 4 [] 0 7]) [] [(10, .val (.bool false))] [((↑l.length : Int) != (↑l.length : Int)) = false] ⟨by simp, trivial⟩ ?_
  refine J_cond_f (by kernel_rfl) (by kernel_rfl) ?_
  refine J_skip ?_
  refine J_seq ?_
  refine J_seq ?_
  refine Za [.rd 0 [] 0 0] [10] [(5, .val (.int .i64 0))] ?_
  refine J_block ?_
  refine J_loopx (fun i : Int => [(0, .val (.slice a l.length c)), (1, .val (.slice b l.length d)), (4, .val (.bool false)), (5, .val (.int .i64 i))]) (fun i : Int => []) (fun i : Int => []) (fun i : Int => [(.slice a l.length c, (D.sl 3 (List.map eDot l))), (.slice b l.length d, (D.sl 3 (List.map eDot l)))]) (fun i : Int => (l.length - i).toNat) (fun i : Int => (0 ≤ i ∧ i ≤ l.length)) 0 [0, 1, 4, 5] [] [] [0, 1] ?_ (by kernel_rfl) rfl rfl rfl ?_
  · exact ⟨by omega, by omega⟩
  rintro i ⟨hi0, hi⟩
  refine J_seq ?_
  refine J_seq ?_
  refine Za (Rds 0 4) [] [(14, .val (.bool (decide (i < (↑l.length : Int)))))] ?_
  refine J_cond (t := decide (i < (↑l.length : Int))) (by kernel_rfl) (by kernel_rfl) (fun hlt => ?_) (fun hlt => ?_)
  · have hlt2 : i < l.length := by simpa using hlt
    obtain ⟨x, hx⟩ : ∃ x, l[i.toNat]? = some x := ⟨_, List.getElem?_eq_getElem (by omega)⟩
    refine J_read0 0 rfl i.toNat (map_at hx) (by kernel_rfl) (fun b1 off1 cs1 ty1 fz1 ha1 hrd1 => ?_)
    cases ha1
    have hrd1_0 := rd0 (hrd1 0 _ rfl)
    have hrd1_1 := hrd1 1 _ rfl
    have hrd1_2 := hrd1 2 _ rfl
    refine J_read0 1 rfl i.toNat (map_at hx) (by kernel_rfl) (fun b2 off2 cs2 ty2 fz2 ha2 hrd2 => ?_)
    cases ha2
    have hrd2_0 := rd0 (hrd2 0 _ rfl)
    have hrd2_1 := hrd2 1 _ rfl
    have hrd2_2 := hrd2 2 _ rfl
    try simp only [aQ]
    refine J_skip ?_
    refine J_seq ?_
    refine J_block ?_
    refine J_seq ?_
    refine Zp [.rd 0 [] 0 0, .rd 1 [] 0 0, .rd 2 [] 0 2, .rd 3 [.r 0 (some (.int .i64 x.place)), .r 0 (some (.int .i64 x.time)), .r 0 (some (.int .i64 x.no))] 0 0, .rd 4 [] 0 0, .rd 5 [] 0 0, .rd 6 [] 0 2, .rd 7 [.r 1 (some (.int .i64 x.place)), .r 1 (some (.int .i64 x.time)), .r 1 (some (.int .i64 x.no))] 0 0, .rd 8 [.r 0 (some (.bool (!decide (x.place = x.place ∧ x.time = x.time ∧ x.no = x.no))))] 0 10] [14] [(25, .val (.bool (!decide (x.place = x.place ∧ x.time = x.time ∧ x.no = x.no))))] [(0 : Int) ≤ i, i < (↑l.length : Int), cs1[off1 + i.toNat * (3 : Nat)]? = some (Value.int IntKind.i64 x.place), cs1[off1 + i.toNat * (3 : Nat) + (1 : Nat)]? = some (Value.int IntKind.i64 x.time), cs1[off1 + i.toNat * (3 : Nat) + (2 : Nat)]? = some (Value.int IntKind.i64 x.no), (0 : Int) ≤ i, i < (↑l.length : Int), cs2[off2 + i.toNat * (3 : Nat)]? = some (Value.int IntKind.i64 x.place), cs2[off2 + i.toNat * (3 : Nat) + (1 : Nat)]? = some (Value.int IntKind.i64 x.time), cs2[off2 + i.toNat * (3 : Nat) + (2 : Nat)]? = some (Value.int IntKind.i64 x.no), eqRun Tryd.prog .neq 61 (Operand.tmp 20) (Operand.tmp 24) (.agg #[.int .i64 x.place, .int .i64 x.time, .int .i64 x.no]) (.agg #[.int .i64 x.place, .int .i64 x.time, .int .i64 x.no]) (.bool (!decide (x.place = x.place ∧ x.time = x.time ∧ x.no = x.no)))] ⟨hi0, hlt2, hrd1_0, hrd1_1, hrd1_2, hi0, hlt2, hrd2_0, hrd2_1, hrd2_2, eqRun_neq_61, trivial⟩ ?_
    refine J_condF (!decide (x.place = x.place ∧ x.time = x.time ∧ x.no = x.no)) (by kernel_rfl) (by kernel_rfl) (by simp) ?_
    refine J_skip ?_
    refine J_eb ?_
    refine Zp [.rd 0 [] 0 0, .rd 1 [] 0 1, .rd 2 [] 0 0] [25] [(5, .val (.int .i64 (i + 1)))] [IntKind.i64.wrap (i + (1 : Int)) = i + (1 : Int)] ⟨wrap_i64 (by omega) (by omega), trivial⟩ ?_
    refine J_backx (i + 1) [0, 1, 4, 5] [] [] [0, 1] ?_ ?_ (by kernel_rfl) rfl rfl rfl
    · exact ⟨by omega, by omega⟩
    · omega
  · refine J_exit rfl ?_
    refine J_seq ?_
    refine Za [.rd 0 [] 0 0] [14, 0, 1, 5] [(4, .val (.bool true))] ?_
    refine Yr [[]] (.bool true) fun a w s => ?_
    exact s.ret (by simp) [] [] rfl rfl
set_option maxHeartbeats 4000000 in
theorem sameOp_eq {w0 : World} {S : Nat → Prop} {a b : Option Addr} {n m c d : Nat} {o : OpT} (ha : Rep w0 S (.slice a n c) (.sl 3 (o.dots.map eDot))) (hb : Rep w0 S (.slice b m d) (.sl 3 (o.dots.map eDot))) (hl : o.dots.length ≤ 1000000) :
    Calls Tryd.prog 41 #[.agg #[.int .i64 o.no, .string o.key, .int .i64 o.kind, .string o.text, .int .i64 o.n, .bool o.remove, .slice a n c], .agg #[.int .i64 o.no, .string o.key, .int .i64 o.kind, .string o.text, .int .i64 o.n, .bool o.remove, .slice b m d]] w0 fun e w' => Ret [] w0 S w' e (.bool true) [] [] := by
  refine ep41 (args := [.agg #[.int .i64 o.no, .string o.key, .int .i64 o.kind, .string o.text, .int .i64 o.n, .bool o.remove, .slice a n c], .agg #[.int .i64 o.no, .string o.key, .int .i64 o.kind, .string o.text, .int .i64 o.n, .bool o.remove, .slice b m d]]) (G := [(_, .sl 3 (o.dots.map eDot)), (_, .sl 3 (o.dots.map eDot))]) (by kernel_rfl) (.cons ha (.cons hb (.nil _ _))) ?_
  refine J_seq ?_
  refine Zm [.wr 0 [] 0, .wr 1 [] 0, .rd 2 [] 0 0] [] [0, 1] (fun nu1 => [(2, .val (.pointer (some (⟨nu1 0, 0, none⟩)))), (3, .val (.pointer (some (⟨nu1 1, 0, none⟩)))), (4, .val (.bool false))]) (fun nu1 => [(nu1 0, .cells #[.int .i64 o.no, .string o.key, .int .i64 o.kind, .string o.text, .int .i64 o.n, .bool o.remove, .slice a n c] 52 (0, 0)), (nu1 1, .cells #[.int .i64 o.no, .string o.key, .int .i64 o.kind, .string o.text, .int .i64 o.n, .bool o.remove, .slice b m d] 52 (0, 0))]) (fun nu1 => ?_)
  refine J_seq ?_
  refine J_seq ?_
  refine Zp ([.rd 0 [] 0 0, .rd 1 [.o 0 none] 0 0, .rd 2 [] 0 0, .rd 3 [.o 1 none] 0 0, .rd 4 [] 0 7, .rd 5 [] 0 0, .rd 6 [] 0 0, .rd 7 [.o 0 none] 0 0, .rd 8 [] 0 0, .rd 9 [.o 1 none] 0 0, .rd 10 [] 0 7] ++ Rds 11 14 ++ [.rd 14 [.o 0 none] 0 0, .rd 15 [] 0 0, .rd 16 [.o 1 none] 0 0, .rd 17 [] 0 7] ++ Rds 18 21 ++ [.rd 21 [.o 0 none] 0 0, .rd 22 [] 0 0, .rd 23 [.o 1 none] 0 0, .rd 24 [] 0 7] ++ Rds 25 28 ++ [.rd 28 [.o 0 none] 0 0, .rd 29 [] 0 0, .rd 30 [.o 1 none] 0 0, .rd 31 [] 0 7] ++ Rds 32 35 ++ [.rd 35 [.o 0 none] 0 0, .rd 36 [] 0 0, .rd 37 [.o 1 none] 0 0, .rd 38 [] 0 7, .rd 39 [] 0 0]) [] [(44, .val (.bool false))] [(o.no != o.no) = false, (!o.key.toList == o.key.toList) = false, (o.kind != o.kind) = false, (!o.text.toList == o.text.toList) = false, (o.n != o.n) = false, (!o.remove == o.remove) = false] ⟨by simp, by simp, by simp, by simp, by simp, by simp, trivial⟩ ?_
  refine J_cond_f (by kernel_rfl) (by kernel_rfl) ?_
  refine J_skip ?_
  refine J_seq ?_
  refine jT [(0, true), (1, true), (2, true), (3, true), (4, false), (5, true)] [] ?_
  refine Ya (id := 3) (rest := [(4, false), (5, true)]) [.rd 0 [] 0 0, .rd 1 [.o 0 none] 0 0, .rd 2 [] 0 0, .rd 3 [.o 1 none] 0 0] [44, 2, 3] [(46, .val (.slice a n c)), (48, .val (.slice b m d))] ?_
  refine Yc 48 #[.slice a n c, .slice b m d] (some 49) fun w S hG => ?_
  refine (sameDots_eq (hG.at 0 rfl) (hG.at 1 rfl) hl).mono ?_
  rintro e1 w1 hR
  refine ⟨_, _, _, hR, ?_⟩
  try simp only [aQ]
  refine Ya (id := 3) (rest := []) [.rd 5 [] 0 0] [49, 46, 48] [(4, .val (.bool true))] ?_
  refine JR_end ?_
  refine Yr [[]] (.bool true) fun a w s => ?_
  exact s.ret (by simp) [] [] rfl rfl
set_option maxHeartbeats 4000000 in
theorem sameCommit_eq {w0 : World} {S : Nat → Prop} {a1 a2 u1 u2 : Option Addr} {n1 c1 n2 c2 m1 d1 m2 d2 : Nat} {c : ComT} (h1 : Rep w0 S (.slice a1 n1 c1) (dInts c.when)) (h2 : Rep w0 S (.slice a2 n2 c2) (.sl 7 (c.ops.map eOp))) (h3 : Rep w0 S (.slice u1 m1 d1) (dInts c.when)) (h4 : Rep w0 S (.slice u2 m2 d2) (.sl 7 (c.ops.map eOp))) (hl1 : c.when.length ≤ 1000000) (hl2 : c.ops.length ≤ 1000000) (hl3 : ∀ o ∈ c.ops, o.dots.length ≤ 1000000) :
    Calls Tryd.prog 32 #[.agg #[.slice a1 n1 c1, .int .i64 c.place, .slice a2 n2 c2], .agg #[.slice u1 m1 d1, .int .i64 c.place, .slice u2 m2 d2]] w0 fun e w' => Ret [] w0 S w' e (.bool true) [] [] := by
  obtain rfl := rep_ints_len h1
  obtain rfl := rep_ints_len h3
  have e2 := h2.slen
  have e4 := h4.slen
  rw [List.length_map] at e2 e4
  subst e2 e4
  refine ep32 (args := [.agg #[.slice a1 c.when.length c1, .int .i64 c.place, .slice a2 c.ops.length c2], .agg #[.slice u1 c.when.length d1, .int .i64 c.place, .slice u2 c.ops.length d2]]) (G := [(_, dInts c.when), (_, .sl 7 (c.ops.map eOp)), (_, dInts c.when), (_, .sl 7 (c.ops.map eOp))]) (by kernel_rfl) (.cons h1 (.cons h2 (.cons h3 (.cons h4 (.nil _ _))))) ?_
  refine J_seq ?_
  refine Zm [.wr 0 [] 0, .wr 1 [] 0, .rd 2 [] 0 0] [] [0, 1] (fun nu1 => [(2, .val (.pointer (some (⟨nu1 0, 0, none⟩)))), (3, .val (.pointer (some (⟨nu1 1, 0, none⟩)))), (4, .val (.bool false))]) (fun nu1 => [(nu1 0, .cells #[.slice a1 c.when.length c1, .int .i64 c.place, .slice a2 c.ops.length c2] 25 (0, 0)), (nu1 1, .cells #[.slice u1 c.when.length d1, .int .i64 c.place, .slice u2 c.ops.length d2] 25 (0, 0))]) (fun nu1 => ?_)
  refine J_seq ?_
  refine J_seq ?_
  refine jT [(0, true), (1, true), (2, true), (3, true), (4, false), (5, true), (6, true), (7, true), (8, true), (9, true), (10, true), (11, true), (12, true), (13, true), (14, true), (15, true), (16, true), (17, true), (18, true), (19, true), (20, true), (21, true)] [] ?_
  refine Ya (id := 1) (rest := [(4, false), (5, true), (6, true), (7, true), (8, true), (9, true), (10, true), (11, true), (12, true), (13, true), (14, true), (15, true), (16, true), (17, true), (18, true), (19, true), (20, true), (21, true)]) [.rd 0 [] 0 0, .rd 1 [.o 0 none] 0 0, .rd 2 [] 0 0, .rd 3 [.o 1 none] 0 0] [] [(8, .val (.slice a1 c.when.length c1)), (10, .val (.slice u1 c.when.length d1))] ?_
  refine Yc 40 #[.slice a1 c.when.length c1, .slice u1 c.when.length d1] (some 11) fun w S hG => ?_
  refine (sameInts (hG.at 0 rfl) (hG.at 2 rfl) hl1).mono ?_
  rintro e1 w1 hR
  rw [decide_eq_true rfl] at hR
  refine ⟨_, _, _, hR, ?_⟩
  try simp only [aQ]
  refine Yp (id := 1) (rest := []) (Rds 5 8 ++ [.rd 8 [.o 0 none] 0 0, .rd 9 [] 0 0, .rd 10 [.o 1 none] 0 0, .rd 11 [] 0 7] ++ Rds 12 15 ++ [.rd 15 [.o 0 none] 0 0, .rd 16 [] 0 0, .rd 17 [] 0 0, .rd 18 [.o 1 none] 0 0, .rd 19 [] 0 0, .rd 20 [] 0 7, .rd 21 [] 0 0]) [11, 8, 10] [(28, .val (.bool false))] [(c.place != c.place) = false, ((↑c.ops.length : Int) != (↑c.ops.length : Int)) = false] ⟨by simp, by simp, trivial⟩ ?_
  refine JR_end ?_
  refine J_cond_f (by kernel_rfl) (by kernel_rfl) ?_
  refine J_skip ?_
  refine J_seq ?_
  refine J_seq ?_
  refine Za [.rd 0 [] 0 0] [28] [(5, .val (.int .i64 0))] ?_
  refine J_block ?_
  refine J_loopx (fun i : Int => [(2, .val (.pointer (some (⟨nu1 0, 0, none⟩)))), (3, .val (.pointer (some (⟨nu1 1, 0, none⟩)))), (4, .val (.bool false)), (5, .val (.int .i64 i))]) (fun i : Int => [(nu1 0, .cells #[.slice a1 c.when.length c1, .int .i64 c.place, .slice a2 c.ops.length c2] 25 (0, 0)), (nu1 1, .cells #[.slice u1 c.when.length d1, .int .i64 c.place, .slice u2 c.ops.length d2] 25 (0, 0))]) (fun i : Int => []) (fun i : Int => [(.slice a1 c.when.length c1, (dInts c.when)), (.slice a2 c.ops.length c2, (D.sl 7 (List.map eOp c.ops))), (.slice u1 c.when.length d1, (dInts c.when)), (.slice u2 c.ops.length d2, (D.sl 7 (List.map eOp c.ops)))]) (fun i : Int => (c.ops.length - i).toNat) (fun i : Int => (0 ≤ i ∧ i ≤ c.ops.length)) 0 [2, 3, 4, 5] [0, 1] [] [0, 1, 2, 3] ?_ (by kernel_rfl) rfl rfl rfl ?_
  · exact ⟨by omega, by omega⟩
  rintro i ⟨hi0, hi⟩
  refine J_seq ?_
  refine J_seq ?_
  refine Za [.rd 0 [] 0 0, .rd 1 [] 0 0, .rd 2 [.o 0 none] 0 0, .rd 3 [] 0 0, .rd 4 [] 0 0] [] [(33, .val (.bool (decide (i < (↑c.ops.length : Int)))))] ?_
  refine J_cond (t := decide (i < (↑c.ops.length : Int))) (by kernel_rfl) (by kernel_rfl) (fun hlt => ?_) (fun hlt => ?_)
  · have hlt2 : i < c.ops.length := by simpa using hlt
    obtain ⟨o, ho⟩ : ∃ o, c.ops[i.toNat]? = some o := ⟨_, List.getElem?_eq_getElem (by omega)⟩
    refine J_read1 1 rfl i.toNat (map_at ho) (by kernel_rfl) (fun b1 off1 cs1 ty1 fz1 a1_0 c1_0 ha1 hrd1 => ?_)
    cases ha1
    have hrd1_0 := rd0 (hrd1 0 _ rfl)
    have hrd1_1 := hrd1 1 _ rfl
    have hrd1_2 := hrd1 2 _ rfl
    have hrd1_3 := hrd1 3 _ rfl
    have hrd1_4 := hrd1 4 _ rfl
    have hrd1_5 := hrd1 5 _ rfl
    have hrd1_6 := hrd1 6 _ rfl
    refine J_read1 3 rfl i.toNat (map_at ho) (by kernel_rfl) (fun b2 off2 cs2 ty2 fz2 a2_0 c2_0 ha2 hrd2 => ?_)
    cases ha2
    have hrd2_0 := rd0 (hrd2 0 _ rfl)
    have hrd2_1 := hrd2 1 _ rfl
    have hrd2_2 := hrd2 2 _ rfl
    have hrd2_3 := hrd2 3 _ rfl
    have hrd2_4 := hrd2 4 _ rfl
    have hrd2_5 := hrd2 5 _ rfl
    have hrd2_6 := hrd2 6 _ rfl
    try simp only [aQ]
    refine J_skip ?_
    refine J_seq ?_
    refine J_block ?_
    refine J_seq ?_
    refine jT [(0, true), (1, true), (2, true), (3, true), (4, true), (5, true), (6, true), (7, true), (8, true), (9, true), (10, false), (11, true)] [] ?_
    refine Yp (id := 6) (rest := [(10, false), (11, true)]) [.rd 0 [] 0 0, .rd 1 [.o 0 none] 0 0, .rd 2 [] 0 0, .rd 3 [] 0 2, .rd 4 [.r 0 (some (.int .i64 o.no)), .r 0 (some (.string o.key)), .r 0 (some (.int .i64 o.kind)), .r 0 (some (.string o.text)), .r 0 (some (.int .i64 o.n)), .r 0 (some (.bool o.remove)), .r 0 (some (.slice (a1_0, c1_0).fst ((List.map eDot o.dots).length) c1_0))] 0 0, .rd 5 [] 0 0, .rd 6 [.o 1 none] 0 0, .rd 7 [] 0 0, .rd 8 [] 0 2, .rd 9 [.r 1 (some (.int .i64 o.no)), .r 1 (some (.string o.key)), .r 1 (some (.int .i64 o.kind)), .r 1 (some (.string o.text)), .r 1 (some (.int .i64 o.n)), .r 1 (some (.bool o.remove)), .r 1 (some (.slice (a2_0, c2_0).fst ((List.map eDot o.dots).length) c2_0))] 0 0] [33] [(40, .val (.agg #[.int .i64 o.no, .string o.key, .int .i64 o.kind, .string o.text, .int .i64 o.n, .bool o.remove, .slice (a1_0, c1_0).fst ((List.map eDot o.dots).length) c1_0])), (45, .val (.agg #[.int .i64 o.no, .string o.key, .int .i64 o.kind, .string o.text, .int .i64 o.n, .bool o.remove, .slice (a2_0, c2_0).fst ((List.map eDot o.dots).length) c2_0]))] [(0 : Int) ≤ i, i < (↑c.ops.length : Int), cs1[off1 + i.toNat * (7 : Nat)]? = some (Value.int IntKind.i64 o.no), cs1[off1 + i.toNat * (7 : Nat) + (1 : Nat)]? = some (Value.string o.key), cs1[off1 + i.toNat * (7 : Nat) + (2 : Nat)]? = some (Value.int IntKind.i64 o.kind), cs1[off1 + i.toNat * (7 : Nat) + (3 : Nat)]? = some (Value.string o.text), cs1[off1 + i.toNat * (7 : Nat) + (4 : Nat)]? = some (Value.int IntKind.i64 o.n), cs1[off1 + i.toNat * (7 : Nat) + (5 : Nat)]? = some (Value.bool o.remove), cs1[off1 + i.toNat * (7 : Nat) + (6 : Nat)]? = some (Value.slice (a1_0, c1_0).fst (List.map eDot o.dots).length (a1_0, c1_0).snd), (0 : Int) ≤ i, i < (↑c.ops.length : Int), cs2[off2 + i.toNat * (7 : Nat)]? = some (Value.int IntKind.i64 o.no), cs2[off2 + i.toNat * (7 : Nat) + (1 : Nat)]? = some (Value.string o.key), cs2[off2 + i.toNat * (7 : Nat) + (2 : Nat)]? = some (Value.int IntKind.i64 o.kind), cs2[off2 + i.toNat * (7 : Nat) + (3 : Nat)]? = some (Value.string o.text), cs2[off2 + i.toNat * (7 : Nat) + (4 : Nat)]? = some (Value.int IntKind.i64 o.n), cs2[off2 + i.toNat * (7 : Nat) + (5 : Nat)]? = some (Value.bool o.remove), cs2[off2 + i.toNat * (7 : Nat) + (6 : Nat)]? = some (Value.slice (a2_0, c2_0).fst (List.map eDot o.dots).length (a2_0, c2_0).snd)] ⟨hi0, hlt2, hrd1_0, hrd1_1, hrd1_2, hrd1_3, hrd1_4, hrd1_5, hrd1_6, hi0, hlt2, hrd2_0, hrd2_1, hrd2_2, hrd2_3, hrd2_4, hrd2_5, hrd2_6, trivial⟩ ?_
    refine Yc 41 #[.agg #[.int .i64 o.no, .string o.key, .int .i64 o.kind, .string o.text, .int .i64 o.n, .bool o.remove, .slice (a1_0, c1_0).fst ((List.map eDot o.dots).length) c1_0], .agg #[.int .i64 o.no, .string o.key, .int .i64 o.kind, .string o.text, .int .i64 o.n, .bool o.remove, .slice (a2_0, c2_0).fst ((List.map eDot o.dots).length) c2_0]] (some 46) fun w S hG => ?_
    refine (sameOp_eq (o := o) (hG.at 4 rfl) (hG.at 5 rfl) (hl3 o (List.mem_of_getElem? ho))).mono ?_
    rintro e1 w1 hR
    refine ⟨_, _, _, hR, ?_⟩
    try simp only [aQ]
    refine Ya (id := 6) (rest := []) [.rd 11 [] 0 0] [46, 40, 45] [(6, .val (.bool true))] ?_
    refine JR_end ?_
    refine J_seq ?_
    refine Za [.rd 0 [] 0 0, .rd 1 [] 0 0] [] [(48, .val (.bool false))] ?_
    refine J_cond_f (by kernel_rfl) (by kernel_rfl) ?_
    refine J_skip ?_
    refine J_eb ?_
    refine Zp [.rd 0 [] 0 0, .rd 1 [] 0 1, .rd 2 [] 0 0] [48] [(5, .val (.int .i64 (i + 1)))] [IntKind.i64.wrap (i + (1 : Int)) = i + (1 : Int)] ⟨wrap_i64 (by omega) (by omega), trivial⟩ ?_
    refine J_backx (i + 1) [2, 3, 4, 5] [0, 1] [] [0, 1, 2, 3] ?_ ?_ (by kernel_rfl) rfl rfl rfl
    · exact ⟨by omega, by omega⟩
    · omega
  · refine J_exit rfl ?_
    refine J_seq ?_
    refine Za [.rd 0 [] 0 0] [33, 2, 3, 5] [(4, .val (.bool true))] ?_
    refine Yr [[]] (.bool true) fun a w s => ?_
    exact s.ret (by simp) [] [] rfl rfl
set_option maxHeartbeats 4000000 in
theorem sameMessage_eq {w0 : World} {S : Nat → Prop} {a1 a2 u1 u2 : Option Addr} {n1 c1 n2 c2 m1 d1 m2 d2 : Nat} {m : MsgT} (h1 : Rep w0 S (.slice a1 n1 c1) (dInts m.c.when)) (h2 : Rep w0 S (.slice a2 n2 c2) (.sl 7 (m.c.ops.map eOp))) (h3 : Rep w0 S (.slice u1 m1 d1) (dInts m.c.when)) (h4 : Rep w0 S (.slice u2 m2 d2) (.sl 7 (m.c.ops.map eOp))) (hl1 : m.c.when.length ≤ 1000000) (hl2 : m.c.ops.length ≤ 1000000) (hl3 : ∀ o ∈ m.c.ops, o.dots.length ≤ 1000000) :
    Calls Tryd.prog 12 #[.agg #[.int .i64 m.fm, .int .i64 m.to, .int .i64 m.shard, .int .i64 m.seq, .int .i64 m.time, .bool m.beat, .slice a1 n1 c1, .int .i64 m.c.place, .slice a2 n2 c2], .agg #[.int .i64 m.fm, .int .i64 m.to, .int .i64 m.shard, .int .i64 m.seq, .int .i64 m.time, .bool m.beat, .slice u1 m1 d1, .int .i64 m.c.place, .slice u2 m2 d2]] w0 fun e w' => Ret [] w0 S w' e (.bool true) [] [] := by
  refine ep12 (args := [.agg #[.int .i64 m.fm, .int .i64 m.to, .int .i64 m.shard, .int .i64 m.seq, .int .i64 m.time, .bool m.beat, .slice a1 n1 c1, .int .i64 m.c.place, .slice a2 n2 c2], .agg #[.int .i64 m.fm, .int .i64 m.to, .int .i64 m.shard, .int .i64 m.seq, .int .i64 m.time, .bool m.beat, .slice u1 m1 d1, .int .i64 m.c.place, .slice u2 m2 d2]]) (G := [(_, dInts m.c.when), (_, .sl 7 (m.c.ops.map eOp)), (_, dInts m.c.when), (_, .sl 7 (m.c.ops.map eOp))]) (by kernel_rfl) (.cons h1 (.cons h2 (.cons h3 (.cons h4 (.nil _ _))))) ?_
  refine J_seq ?_
  refine Zm [.wr 0 [] 0, .wr 1 [] 0, .rd 2 [] 0 0] [] [0, 1] (fun nu1 => [(2, .val (.pointer (some (⟨nu1 0, 0, none⟩)))), (3, .val (.pointer (some (⟨nu1 1, 0, none⟩)))), (4, .val (.bool false))]) (fun nu1 => [(nu1 0, .cells #[.int .i64 m.fm, .int .i64 m.to, .int .i64 m.shard, .int .i64 m.seq, .int .i64 m.time, .bool m.beat, .slice a1 n1 c1, .int .i64 m.c.place, .slice a2 n2 c2] 27 (0, 0)), (nu1 1, .cells #[.int .i64 m.fm, .int .i64 m.to, .int .i64 m.shard, .int .i64 m.seq, .int .i64 m.time, .bool m.beat, .slice u1 m1 d1, .int .i64 m.c.place, .slice u2 m2 d2] 27 (0, 0))]) (fun nu1 => ?_)
  refine J_seq ?_
  refine J_seq ?_
  refine Zp ([.rd 0 [] 0 0, .rd 1 [.o 0 none] 0 0, .rd 2 [] 0 0, .rd 3 [.o 1 none] 0 0, .rd 4 [] 0 7, .rd 5 [] 0 0, .rd 6 [] 0 0, .rd 7 [.o 0 none] 0 0, .rd 8 [] 0 0, .rd 9 [.o 1 none] 0 0, .rd 10 [] 0 7] ++ Rds 11 14 ++ [.rd 14 [.o 0 none] 0 0, .rd 15 [] 0 0, .rd 16 [.o 1 none] 0 0, .rd 17 [] 0 7] ++ Rds 18 21 ++ [.rd 21 [.o 0 none] 0 0, .rd 22 [] 0 0, .rd 23 [.o 1 none] 0 0, .rd 24 [] 0 7] ++ Rds 25 28 ++ [.rd 28 [.o 0 none] 0 0, .rd 29 [] 0 0, .rd 30 [.o 1 none] 0 0, .rd 31 [] 0 7] ++ Rds 32 35 ++ [.rd 35 [.o 0 none] 0 0, .rd 36 [] 0 0, .rd 37 [.o 1 none] 0 0, .rd 38 [] 0 7, .rd 39 [] 0 0]) [] [(44, .val (.bool false))] [(m.fm != m.fm) = false, (m.to != m.to) = false, (m.shard != m.shard) = false, (m.seq != m.seq) = false, (m.time != m.time) = false, (!m.beat == m.beat) = false] ⟨by simp, by simp, by simp, by simp, by simp, by simp, trivial⟩ ?_
  refine J_cond_f (by kernel_rfl) (by kernel_rfl) ?_
  refine J_skip ?_
  refine J_seq ?_
  refine jT [(0, true), (1, true), (2, true), (3, true), (4, false), (5, true)] [] ?_
  refine Ya (id := 3) (rest := [(4, false), (5, true)]) [.rd 0 [] 0 0, .rd 1 [.o 0 none, .o 0 none, .o 0 none] 0 0, .rd 2 [] 0 0, .rd 3 [.o 1 none, .o 1 none, .o 1 none] 0 0] [44, 2, 3] [(46, .val (.agg #[.slice a1 n1 c1, .int .i64 m.c.place, .slice a2 n2 c2])), (48, .val (.agg #[.slice u1 m1 d1, .int .i64 m.c.place, .slice u2 m2 d2]))] ?_
  refine Yc 32 #[.agg #[.slice a1 n1 c1, .int .i64 m.c.place, .slice a2 n2 c2], .agg #[.slice u1 m1 d1, .int .i64 m.c.place, .slice u2 m2 d2]] (some 49) fun w S hG => ?_
  refine (sameCommit_eq (c := m.c) (hG.at 0 rfl) (hG.at 1 rfl) (hG.at 2 rfl) (hG.at 3 rfl) hl1 hl2 hl3).mono ?_
  rintro e1 w1 hR
  refine ⟨_, _, _, hR, ?_⟩
  try simp only [aQ]
  refine Ya (id := 3) (rest := []) [.rd 5 [] 0 0] [49, 46, 48] [(4, .val (.bool true))] ?_
  refine JR_end ?_
  refine Yr [[]] (.bool true) fun a w s => ?_
  exact s.ret (by simp) [] [] rfl rfl
def heavyOp (o : OpT) : Bool := decide (60 < (o.key.size : Int)) || decide (200 < (o.text.size : Int)) || decide (70 < (o.dots.length : Int))
def heavyC (c : ComT) : Int := if 20 < c.when.length ∨ 20 < c.ops.length then 1 else if c.ops.any heavyOp then 1 else 0
set_option maxHeartbeats 4000000 in
theorem heavyCommit {w0 : World} {S : Nat → Prop} {a1 a2 : Option Addr} {n1 c1 n2 c2 : Nat} {c : ComT} (h1 : Rep w0 S (.slice a1 n1 c1) (dInts c.when)) (h2 : Rep w0 S (.slice a2 n2 c2) (.sl 7 (c.ops.map eOp))) :
    Calls Tryd.prog 6 #[.agg #[.slice a1 n1 c1, .int .i64 c.place, .slice a2 n2 c2]] w0 fun e w' => Ret [] w0 S w' e (.int .i64 (heavyC c)) [] [] := by
  obtain rfl := rep_ints_len h1
  have e2 := h2.slen
  rw [List.length_map] at e2
  subst e2
  refine ep6 (args := [.agg #[.slice a1 c.when.length c1, .int .i64 c.place, .slice a2 c.ops.length c2]]) (G := [(_, dInts c.when), (_, .sl 7 (c.ops.map eOp))]) (by kernel_rfl) (.cons h1 (.cons h2 (.nil _ _))) ?_
  refine J_seq ?_
  refine Zm [.wr 0 [] 0, .rd 1 [] 0 0] [] [0] (fun nu1 => [(1, .val (.pointer (some (⟨nu1 0, 0, none⟩)))), (2, .val (.int .i64 0))]) (fun nu1 => [(nu1 0, .cells #[.slice a1 c.when.length c1, .int .i64 c.place, .slice a2 c.ops.length c2] 25 (0, 0))]) (fun nu1 => ?_)
  refine J_seq ?_
  refine J_seq ?_
  refine Za ([.rd 0 [] 0 0, .rd 1 [.o 0 none] 0 0] ++ Rds 2 5 ++ [.rd 5 [] 2 0, .rd 6 [.o 0 none] 2 0, .rd 7 [] 2 0, .rd 8 [] 2 0, .rd 9 [] 0 3]) [] [(13, .val (.bool (decide ((↑c.when.length : Int) > 20) || decide ((↑c.ops.length : Int) > 20))))] ?_
  refine J_cond (t := decide ((↑c.when.length : Int) > 20) || decide ((↑c.ops.length : Int) > 20)) (by kernel_rfl) (by kernel_rfl) (fun hbig => ?_) (fun hbig => ?_)
  · refine J_seq ?_
    refine Za [.rd 0 [] 0 0] [13] [(2, .val (.int .i64 1))] ?_
    refine Yr [[]] (.int .i64 1) fun a w s => ?_
    have e1 : heavyC c = 1 := by rw [heavyC, if_pos (by simp at hbig; omega)]
    rw [e1]
    exact s.ret (by simp) [] [] rfl rfl
  · have hn : ¬ (20 < c.when.length ∨ 20 < c.ops.length) := by simp at hbig; omega
    refine J_skip ?_
    refine J_seq ?_
    refine J_seq ?_
    refine Za [.rd 0 [] 0 0] [13] [(3, .val (.int .i64 0))] ?_
    refine J_block ?_
    refine J_loopx (fun i : Int => [(1, .val (.pointer (some (⟨nu1 0, 0, none⟩)))), (2, .val (.int .i64 0)), (3, .val (.int .i64 i))]) (fun i : Int => [(nu1 0, .cells #[.slice a1 c.when.length c1, .int .i64 c.place, .slice a2 c.ops.length c2] 25 (0, 0))]) (fun i : Int => []) (fun i : Int => [(.slice a1 c.when.length c1, (dInts c.when)), (.slice a2 c.ops.length c2, (D.sl 7 (List.map eOp c.ops)))]) (fun i : Int => (c.ops.length - i).toNat) (fun i : Int => (0 ≤ i ∧ i ≤ c.ops.length ∧ ∀ j : Nat, j < i.toNat → ∀ o, c.ops[j]? = some o → heavyOp o = false)) 0 [1, 2, 3] [0] [] [0, 1] ?_ (by kernel_rfl) rfl rfl rfl ?_
    · exact ⟨by omega, by omega, by simp⟩
    rintro i ⟨hi0, hi, hno⟩
    refine J_seq ?_
    refine J_seq ?_
    refine Za [.rd 0 [] 0 0, .rd 1 [] 0 0, .rd 2 [.o 0 none] 0 0, .rd 3 [] 0 0, .rd 4 [] 0 0] [] [(18, .val (.bool (decide (i < (↑c.ops.length : Int)))))] ?_
    refine J_cond (t := decide (i < (↑c.ops.length : Int))) (by kernel_rfl) (by kernel_rfl) (fun hlt => ?_) (fun hlt => ?_)
    · have hlt2 : i < c.ops.length := by simpa using hlt
      obtain ⟨o, ho⟩ : ∃ o, c.ops[i.toNat]? = some o := ⟨_, List.getElem?_eq_getElem (by omega)⟩
      refine J_read1 1 rfl i.toNat (map_at ho) (by kernel_rfl) (fun b1 off1 cs1 ty1 fz1 a1_0 c1_0 ha1 hrd1 => ?_)
      cases ha1
      have hrd1_0 := rd0 (hrd1 0 _ rfl)
      have hrd1_1 := hrd1 1 _ rfl
      have hrd1_2 := hrd1 2 _ rfl
      have hrd1_3 := hrd1 3 _ rfl
      have hrd1_4 := hrd1 4 _ rfl
      have hrd1_5 := hrd1 5 _ rfl
      have hrd1_6 := hrd1 6 _ rfl
      try simp only [aQ]
      refine J_skip ?_
      refine J_seq ?_
      refine J_block ?_
      refine J_seq ?_
      refine Zp ([.rd 0 [] 0 0, .rd 1 [.o 0 none] 0 0, .rd 2 [] 0 0, .rd 3 [] 0 2, .rd 4 [] 0 0, .rd 5 [.r 0 (some (.string o.key))] 0 0] ++ Rds 6 9 ++ [.rd 9 [] 2 0, .rd 10 [.o 0 none] 2 0, .rd 11 [] 2 0, .rd 12 [] 2 2, .rd 13 [] 2 0, .rd 14 [.r 0 (some (.string o.text))] 2 0, .rd 15 [] 2 0, .rd 16 [] 2 0, .rd 17 [] 0 3, .rd 18 [] 0 0, .rd 19 [] 2 0, .rd 20 [.o 0 none] 2 0, .rd 21 [] 2 0, .rd 22 [] 2 2, .rd 23 [] 2 0, .rd 24 [.r 0 (some (.slice (a1_0, c1_0).fst ((List.map eDot o.dots).length) c1_0))] 2 0, .rd 25 [] 2 0, .rd 26 [] 2 0, .rd 27 [] 0 3]) [18] [(48, .val (.bool (decide ((↑o.key.size : Int) > 60) || decide ((↑o.text.size : Int) > 200) || decide ((↑(List.map eDot o.dots).length : Int) > 70))))] [(0 : Int) ≤ i, i < (↑c.ops.length : Int), cs1[off1 + i.toNat * (7 : Nat) + (1 : Nat)]? = some (Value.string o.key), (decide ((↑o.key.size : Int) > 60)) = false → (0 : Int) ≤ i, (decide ((↑o.key.size : Int) > 60)) = false → i < (↑c.ops.length : Int), (decide ((↑o.key.size : Int) > 60)) = false → cs1[off1 + i.toNat * (7 : Nat) + (3 : Nat)]? = some (Value.string o.text), (decide ((↑o.key.size : Int) > 60) || decide ((↑o.text.size : Int) > 200)) = false → (0 : Int) ≤ i, (decide ((↑o.key.size : Int) > 60) || decide ((↑o.text.size : Int) > 200)) = false → i < (↑c.ops.length : Int), (decide ((↑o.key.size : Int) > 60) || decide ((↑o.text.size : Int) > 200)) = false → cs1[off1 + i.toNat * (7 : Nat) + (6 : Nat)]? = some (Value.slice (a1_0, c1_0).fst (List.map eDot o.dots).length (a1_0, c1_0).snd)] ⟨hi0, hlt2, hrd1_1, (fun _ => hi0), (fun _ => hlt2), (fun _ => hrd1_3), (fun _ => hi0), (fun _ => hlt2), (fun _ => hrd1_6), trivial⟩ ?_
      refine J_cond (t := decide ((↑o.key.size : Int) > 60) || decide ((↑o.text.size : Int) > 200) || decide ((↑(List.map eDot o.dots).length : Int) > 70)) (by kernel_rfl) (by kernel_rfl) (fun hb => ?_) (fun hb => ?_)
      · refine J_seq ?_
        refine Za [.rd 0 [] 0 0] [48] [(2, .val (.int .i64 1))] ?_
        refine Yr [[]] (.int .i64 1) fun a w s => ?_
        have e1 : heavyC c = 1 := by
          rw [heavyC, if_neg hn, if_pos (List.any_eq_true.2 ⟨o, List.mem_of_getElem? ho, ?_⟩)]
          simpa [heavyOp] using hb
        rw [e1]
        exact s.ret (by simp) [] [] rfl rfl
      · refine J_skip ?_
        refine J_eb ?_
        refine Zp [.rd 0 [] 0 0, .rd 1 [] 0 1, .rd 2 [] 0 0] [48] [(3, .val (.int .i64 (i + 1)))] [IntKind.i64.wrap (i + (1 : Int)) = i + (1 : Int)] ⟨wrap_i64 (by omega) (by omega), trivial⟩ ?_
        refine J_backx (i + 1) [1, 2, 3] [0] [] [0, 1] ?_ ?_ (by kernel_rfl) rfl rfl rfl
        · refine ⟨by omega, by omega, fun j hj o' ho' => ?_⟩
          by_cases hji : j = i.toNat
          · subst hji
            rw [ho] at ho'
            cases ho'
            simpa [heavyOp] using hb
          · exact hno j (by omega) o' ho'
        · omega
    · refine J_exit rfl ?_
      refine J_seq ?_
      refine Za [.rd 0 [] 0 0] [18, 1, 3] [] ?_
      refine Yr [[]] (.int .i64 0) fun a w s => ?_
      have e1 : heavyC c = 0 := by
        rw [heavyC, if_neg hn, if_neg]
        rw [Bool.not_eq_true, List.any_eq_false]
        intro o ho
        obtain ⟨j, hj⟩ := List.getElem?_of_mem ho
        have hjl := (List.getElem?_eq_some_iff.1 hj).1
        simp [hno j (by simp at hlt; omega) o hj]
      rw [e1]
      exact s.ret (by simp) [] [] rfl rfl
set_option maxHeartbeats 4000000 in
theorem wireOf {w0 : World} {S : Nat → Prop} {a1 a2 : Option Addr} {n1 c1 n2 c2 : Nat} {m : MsgT} (h1 : Rep w0 S (.slice a1 n1 c1) (dInts m.c.when)) (h2 : Rep w0 S (.slice a2 n2 c2) (.sl 7 (m.c.ops.map eOp))) (hl1 : m.c.when.length ≤ 1000000) (hl2 : m.c.ops.length ≤ 1000000) (hl3 : ∀ o ∈ m.c.ops, o.dots.length ≤ 1000000) :
    Calls Tryd.prog 8 #[.agg #[.int .i64 m.fm, .int .i64 m.to, .int .i64 m.shard, .int .i64 m.seq, .int .i64 m.time, .bool m.beat, .slice a1 n1 c1, .int .i64 m.c.place, .slice a2 n2 c2]] w0 fun e w' => ∃ b1 m1 d1 b2 m2 d2,
      Ret [] w0 S w' e (.agg #[.int .i64 m.fm, .int .i64 m.to, .int .i64 m.shard, .int .i64 m.seq, .int .i64 m.time, .bool m.beat, .slice b1 m1 d1, .int .i64 m.c.place, .slice b2 m2 d2]) [] [(.slice b1 m1 d1, dInts m.c.when), (.slice b2 m2 d2, .sl 7 (m.c.ops.map eOp))] := by
  refine ep8 (args := [.agg #[.int .i64 m.fm, .int .i64 m.to, .int .i64 m.shard, .int .i64 m.seq, .int .i64 m.time, .bool m.beat, .slice a1 n1 c1, .int .i64 m.c.place, .slice a2 n2 c2]]) (G := [(_, dInts m.c.when), (_, .sl 7 (m.c.ops.map eOp))]) (by kernel_rfl) (.cons h1 (.cons h2 (.nil _ _))) ?_
  refine J_seq ?_
  refine Zm [.wr 0 [] 0, .wr 1 [] 0] [] [0] (fun nu1 => [(1, .val (.pointer (some (⟨nu1 0, 0, none⟩)))), (2, .val (.pointer (some (⟨nu1 1, 0, none⟩))))]) (fun nu1 => [(nu1 0, .cells #[.int .i64 m.fm, .int .i64 m.to, .int .i64 m.shard, .int .i64 m.seq, .int .i64 m.time, .bool m.beat, .slice a1 n1 c1, .int .i64 m.c.place, .slice a2 n2 c2] 27 (0, 0)), (nu1 1, .cells #[.int .i64 0, .int .i64 0, .int .i64 0, .int .i64 0, .int .i64 0, .bool false, .slice none 0 0, .int .i64 0, .slice none 0 0] 34 (0, 0))]) (fun nu1 => ?_)
  refine J_seq ?_
  refine jT [(0, true), (1, true), (2, true), (3, true), (4, true), (5, true), (6, true), (7, true), (8, true), (9, true), (10, true), (11, true), (12, true), (13, true), (14, false), (15, true), (16, false)] [(16, [1])] ?_
  refine Ya (id := 1) (rest := [(14, false), (15, true), (16, false)]) [.rd 0 [] 0 0, .rd 1 [.o 0 none] 0 0, .rd 2 [] 0 0, .rd 3 [.o 0 none] 0 0, .rd 4 [] 0 0, .rd 5 [.o 0 none] 0 0, .rd 6 [] 0 0, .rd 7 [.o 0 none] 0 0, .rd 8 [] 0 0, .rd 9 [.o 0 none] 0 0, .rd 10 [] 0 0, .rd 11 [.o 0 none] 0 0, .rd 12 [] 0 0, .rd 13 [.o 0 none, .o 0 none, .o 0 none] 0 0] [1] [(4, .val (.int .i64 m.fm)), (6, .val (.int .i64 m.to)), (8, .val (.int .i64 m.shard)), (10, .val (.int .i64 m.seq)), (12, .val (.int .i64 m.time)), (14, .val (.bool m.beat)), (16, .val (.agg #[.slice a1 n1 c1, .int .i64 m.c.place, .slice a2 n2 c2]))] ?_
  refine Yc 22 #[.agg #[.slice a1 n1 c1, .int .i64 m.c.place, .slice a2 n2 c2]] (some 17) fun w S hG => ?_
  refine (ownCommit (c := m.c) (hG.at 0 rfl) (hG.at 1 rfl) hl1 hl2 hl3).mono ?_
  rintro e1 w1 ⟨b1, m1, d1, b2, m2, d2, hR⟩
  refine ⟨_, _, _, hR, ?_⟩
  try simp only [aQ]
  refine Ym (id := 1) (rest := []) [.rd 15 [] 0 0, .wr 16 [.o 1 none, .o 1 none, .o 1 none, .o 1 none, .o 1 none, .o 1 none, .o 1 none, .o 1 none, .o 1 none] 0] [17, 4, 6, 8, 10, 12, 14, 16] (fun _ => []) (fun _ => [(nu1 0, .cells #[.int .i64 m.fm, .int .i64 m.to, .int .i64 m.shard, .int .i64 m.seq, .int .i64 m.time, .bool m.beat, .slice a1 n1 c1, .int .i64 m.c.place, .slice a2 n2 c2] 27 (0, 0)), (nu1 1, .cells #[.int .i64 m.fm, .int .i64 m.to, .int .i64 m.shard, .int .i64 m.seq, .int .i64 m.time, .bool m.beat, .slice b1 m1 d1, .int .i64 m.c.place, .slice b2 m2 d2] 34 (0, 0))]) [] (fun _ => ?_)
  refine JR_end ?_
  refine Yr [[.o 1 none, .o 1 none, .o 1 none, .o 1 none, .o 1 none, .o 1 none, .o 1 none, .o 1 none, .o 1 none]] (.agg #[.int .i64 m.fm, .int .i64 m.to, .int .i64 m.shard, .int .i64 m.seq, .int .i64 m.time, .bool m.beat, .slice b1 m1 d1, .int .i64 m.c.place, .slice b2 m2 d2]) fun a w s => ?_
  exact ⟨b1, m1, d1, b2, m2, d2, s.ret (by simp) [] [2, 3] rfl rfl⟩
end Go.Proofs.YtonhcoeneahpaaaDoor
end
