/- Part 9 of the texts of a claim: WLaw WReads Tx9. -/
import Derived.Stop.LaidErr
import Derived.Below
import Derived.Carry
import Derived.ChangeSame
import Derived.OpenShut
import Derived.ChangeSlices
import Derived.Test.YtonhcoeneahpaaaDoorTb8
section
namespace Go.Proofs.YtonhcoeneahpaaaDoor
open Go Go.Sx
theorem enc4_length (n : Int) : (enc4 n).length = 4 := rfl
theorem dec_enc {m : MsgT} (h : Go.Sx.OkMsg m) (hl : (encMsg m).length ≤ 5996) : decodeE (encMsg m ++ enc4 (sumN (encMsg m))) = (m, 0) := by
  have e : (encMsg m ++ enc4 (sumN (encMsg m))).length - 4 = (encMsg m).length := by
    rw [List.length_append, enc4_length]
    omega
  have e1 : (encMsg m ++ enc4 (sumN (encMsg m))).take (encMsg m).length = encMsg m := List.take_left' rfl
  have e2 : (encMsg m ++ enc4 (sumN (encMsg m))).drop (encMsg m).length = enc4 (sumN (encMsg m)) := List.drop_left' rfl
  rw [decodeE, if_neg (by rw [List.length_append, enc4_length]; omega), e, e1, e2, if_neg (fun h => h rfl), parse_enc h]
theorem enc_dec {l : List UInt8} {m : MsgT} (h : decodeE l = (m, 0)) : l = encMsg m ++ enc4 (sumN (encMsg m)) ∧ (encMsg m).length ≤ 5996 := by
  unfold decodeE at h
  split at h
  · cases h
  rename_i hl
  split at h
  · cases h
  rename_i hs
  split at h
  · cases h
  rename_i m' hp
  cases h
  have h1 := enc_parse hp
  have h2 : enc4 (sumN (l.take (l.length - 4)) : Int) = l.drop (l.length - 4) := Decidable.byContradiction hs
  rw [h1] at h2
  refine ⟨?_, ?_⟩
  · rw [h2, ← h1, List.take_append_drop]
  · rw [← h1, List.length_take]
    omega
theorem encDot_length (d : DotT) : (encDot d).length = 24 := rfl
theorem flatDot (l : List DotT) : (l.flatMap encDot).length = 24 * l.length := by
  induction l with
  | nil => rfl
  | cons x l ih =>
    rw [List.flatMap_cons, List.length_append, ih, encDot_length, List.length_cons]
    omega
theorem encOp_len (o : OpT) : (encOp o).length = 56 + o.key.size + o.text.size + 24 * o.dots.length := by
  rw [encOp_head, List.length_append, flatDot]
  simp only [headO, List.length_append, flat8, encF_length, encT_length, List.length_cons, List.length_nil]
  omega
theorem encMsg_len (m : MsgT) : (encMsg m).length = 72 + 8 * m.c.when.length + (m.c.ops.flatMap encOp).length := by
  rw [encMsg_head, List.length_append]
  simp only [headM, List.length_append, flat8, encF_length, List.length_cons, List.length_nil]
  omega
theorem dec_small {l : List UInt8} {m : MsgT} {k : Nat} (h : decodeE l = (m, k)) : k ≤ 12 ∧ m.c.when.length ≤ 1000000 ∧ m.c.ops.length ≤ 1000000 ∧ ∀ o ∈ m.c.ops, o.dots.length ≤ 1000000 := by
  rcases Nat.eq_zero_or_pos k with rfl | hk
  · obtain ⟨_, h2⟩ := enc_dec h
    rw [encMsg_len] at h2
    have h3 := flat_length (en := encOp) (least := 1) (fun x => by have := encOp_length x; omega) m.c.ops
    refine ⟨by omega, by omega, by omega, fun o ho => ?_⟩
    have h4 := flat_mem_le encOp ho
    rw [encOp_len] at h4
    omega
  · unfold decodeE at h
    split at h
    · cases h
      exact ⟨by decide, by decide, by decide, by simp [zeroM]⟩
    split at h
    · cases h
      exact ⟨by decide, by decide, by decide, by simp [zeroM]⟩
    split at h
    · cases h
      exact ⟨by decide, by decide, by decide, by simp [zeroM]⟩
    · cases h
      omega
theorem ok_zero : Go.Sx.OkMsg zeroM := by
  have h0 : InR 0 := ⟨by decide, by decide⟩
  exact ⟨h0, h0, h0, h0, h0, ⟨by decide, by simp [zeroM]⟩, h0, by decide, by simp [zeroM]⟩
set_option maxHeartbeats 4000000 in
theorem codedW {w0 : World} {S : Nat → Prop} {er : Nat → Addr} {eb : Nat → Array Value × TypeId} {k : Nat} {v : Value} (hC : Rep w0 S .nilIface (dC er eb)) (hI : Inj er) (hk : k ≤ 12) (hv : ErrIs 122 er k v) :
    Calls Tryd.prog 10 #[v, .int .i64 k] w0 fun e w' => Ret [] w0 S w' e (.bool true) [] [] := by
  refine ep10 (args := [v, .int .i64 k]) (G := [(_, dC er eb)]) (by kernel_rfl) (.cons hC (.nil _ _)) ?_
  refine J_seq ?_
  refine Za [.rd 0 [] 0 0] [] [(4, .val (.bool false))] ?_
  refine J_seq ?_
  refine jT [(0, true), (1, false), (2, true), (3, true), (4, true), (5, true), (6, true)] [] ?_
  refine Ya (id := 1) (rest := [(1, false), (2, true), (3, true), (4, true), (5, true), (6, true)]) [.rd 0 [] 0 0] [0] [(8, .val (v))] ?_
  refine Yc 25 #[v] (some 9) fun w S hG => ?_
  refine (codeErr (hG.at 0 rfl) hI hk hv).mono ?_
  rintro e1 w1 hR
  refine ⟨_, _, _, hR, ?_⟩
  try simp only [aQ]
  refine Ya (id := 1) (rest := []) (Rds 2 7) [9, 8] [(5, .val (.int .i64 (↑k : Int))), (6, .val (.int .i64 (-1)))] ?_
  refine JR_end ?_
  refine J_seq ?_
  refine Zp ([.rd 0 [] 0 0, .rd 1 [] 0 0, .rd 2 [] 0 6] ++ Rds 3 8) [5, 6, 1] [(4, .val (.bool true))] [((↑k : Int) == (↑k : Int)) = true] ⟨by simp, trivial⟩ ?_
  refine Yr [[]] (.bool true) fun a w s => ?_
  exact s.ret (by simp) [] [] rfl rfl
set_option maxHeartbeats 4000000 in
theorem backWire {w0 : World} {S : Nat → Prop} {m : MsgT} {v1 v2 : Value} (h1 : v1.oneCell' = true) (h2 : v2.oneCell' = true) : Calls Tryd.prog 13 #[.agg #[.int .i64 m.fm, .int .i64 m.to, .int .i64 m.shard, .int .i64 m.seq, .int .i64 m.time, .bool m.beat, v1, .int .i64 m.c.place, v2]] w0 fun e w' =>
    Ret [] w0 S w' e (.agg #[.int .i64 m.fm, .int .i64 m.to, .int .i64 m.shard, .int .i64 m.seq, .int .i64 m.time, .bool m.beat, v1, .int .i64 m.c.place, v2]) [] [] := by
  refine ep13 (args := [.agg #[.int .i64 m.fm, .int .i64 m.to, .int .i64 m.shard, .int .i64 m.seq, .int .i64 m.time, .bool m.beat, v1, .int .i64 m.c.place, v2]]) (S := S) (G := []) (by kernel_rfl) (.nil _ _) ?_
  refine J_seq ?_
  refine Zm [.wr 0 [] 0, .wr 1 [] 0] [] [0] (fun nu1 => [(1, .val (.pointer (some (⟨nu1 0, 0, none⟩)))), (2, .val (.pointer (some (⟨nu1 1, 0, none⟩))))]) (fun nu1 => [(nu1 0, .cells #[.int .i64 m.fm, .int .i64 m.to, .int .i64 m.shard, .int .i64 m.seq, .int .i64 m.time, .bool m.beat, v1, .int .i64 m.c.place, v2] 34 (0, 0)), (nu1 1, .cells #[.int .i64 0, .int .i64 0, .int .i64 0, .int .i64 0, .int .i64 0, .bool false, .slice none 0 0, .int .i64 0, .slice none 0 0] 27 (0, 0))]) (fun nu1 => ?_)
  refine J_seq ?_
  refine Zn [.rd 0 [] 0 0, .rd 1 [.o 0 none] 0 0, .rd 2 [] 0 0, .rd 3 [.o 0 none] 0 0, .rd 4 [] 0 0, .rd 5 [.o 0 none] 0 0, .rd 6 [] 0 0, .rd 7 [.o 0 none] 0 0, .rd 8 [] 0 0, .rd 9 [.o 0 none] 0 0, .rd 10 [] 0 0, .rd 11 [.o 0 none] 0 0, .rd 12 [] 0 0, .rd 13 [.o 0 none, .o 0 none, .o 0 none] 0 0, .rd 14 [] 0 0, .wr 15 [.o 1 none, .o 1 none, .o 1 none, .o 1 none, .o 1 none, .o 1 none, .o 1 (some (v1)), .o 1 none, .o 1 (some (v2))] 0] [(15, [1])] [1] (fun _ => []) (fun _ => [(nu1 0, .cells #[.int .i64 m.fm, .int .i64 m.to, .int .i64 m.shard, .int .i64 m.seq, .int .i64 m.time, .bool m.beat, v1, .int .i64 m.c.place, v2] 34 (0, 0)), (nu1 1, .cells #[.int .i64 m.fm, .int .i64 m.to, .int .i64 m.shard, .int .i64 m.seq, .int .i64 m.time, .bool m.beat, v1, .int .i64 m.c.place, v2] 27 (0, 0))]) (fun _ => [v1.oneCell' = true, (6 : Nat) < #[Value.int IntKind.i64 m.fm, Value.int IntKind.i64 m.to, Value.int IntKind.i64 m.shard, Value.int IntKind.i64 m.seq, Value.int IntKind.i64 m.time, Value.bool m.beat, Value.slice none (0 : Nat) (0 : Nat), Value.int IntKind.i64 (0 : Int), Value.slice none (0 : Nat) (0 : Nat)].size, v2.oneCell' = true, (8 : Nat) < #[Value.int IntKind.i64 m.fm, Value.int IntKind.i64 m.to, Value.int IntKind.i64 m.shard, Value.int IntKind.i64 m.seq, Value.int IntKind.i64 m.time, Value.bool m.beat, v1, Value.int IntKind.i64 m.c.place, Value.slice none (0 : Nat) (0 : Nat)].size]) (fun _ => ⟨h1, by simp; done, h2, by simp; done, trivial⟩) (fun _ => ?_)
  refine Yr [[.o 1 none, .o 1 none, .o 1 none, .o 1 none, .o 1 none, .o 1 none, .o 1 none, .o 1 none, .o 1 none]] (.agg #[.int .i64 m.fm, .int .i64 m.to, .int .i64 m.shard, .int .i64 m.seq, .int .i64 m.time, .bool m.beat, v1, .int .i64 m.c.place, v2]) fun a w s => ?_
  all_goals first | assumption | exact s.ret (by simp) [] [] rfl rfl
set_option maxHeartbeats 4000000 in
theorem wiredW {w0 : World} {S : Nat → Prop} {er : Nat → Addr} {eb : Nat → Array Value × TypeId} (hC : Rep w0 S .nilIface (dC er eb)) :
    Calls Tryd.prog 5 #[] w0 fun e w' => Ret [] w0 S w' e (.bool true) [] [] := by
  have hl : (encMsg zeroM).length = 72 := by rw [encMsg_len]; rfl
  refine ep5 (args := []) (G := [(_, dC er eb)]) (by kernel_rfl) (.cons hC (.nil _ _)) ?_
  refine J_seq ?_
  refine Za [.rd 0 [] 0 0] [] [(0, .val (.bool false))] ?_
  refine J_seq ?_
  refine jT [(0, true), (1, false), (2, true), (3, true), (4, true), (5, true), (6, true)] [] ?_
  refine Ya (id := 1) (rest := [(1, false), (2, true), (3, true), (4, true), (5, true), (6, true)]) [.rd 0 [] 0 0] [] [(6, .val (.agg #[.int .i64 0, .int .i64 0, .int .i64 0, .int .i64 0, .int .i64 0, .bool false, .slice none 0 0, .int .i64 0, .slice none 0 0]))] ?_
  refine Yc 7 #[.agg #[.int .i64 0, .int .i64 0, .int .i64 0, .int .i64 0, .int .i64 0, .bool false, .slice none 0 0, .int .i64 0, .slice none 0 0]] (some 7) fun w S hG => ?_
  refine (encodeW (m := zeroM) (hG.at 0 rfl) .nil .nil (by omega)).mono ?_
  rintro e1 w1 (⟨h, _⟩ | ⟨_, hR⟩)
  · omega
  refine ⟨_, _, _, hR, ?_⟩
  try simp only [aQ]
  refine Ya (id := 1) (rest := []) (Rds 2 7) [7, 6] [(1, .val (.string (ByteArray.mk (encMsg zeroM ++ enc4 (↑(sumN (encMsg zeroM)) : Int)).toArray))), (2, .val (.nilIface))] ?_
  refine JR_end ?_
  refine J_seq ?_
  refine jT [(0, true), (1, false), (2, true), (3, true), (4, true), (5, false), (6, false), (7, true)] [] ?_
  refine Ya (id := 2) (rest := [(1, false), (2, true), (3, true), (4, true), (5, false), (6, false), (7, true)]) [.rd 0 [] 0 0] [] [(11, .val (.string (ByteArray.mk (encMsg zeroM ++ enc4 (↑(sumN (encMsg zeroM)) : Int)).toArray)))] ?_
  refine Yc 11 #[.string (ByteArray.mk (encMsg zeroM ++ enc4 (↑(sumN (encMsg zeroM)) : Int)).toArray)] (some 12) fun w S hG => ?_
  have hsz : (ByteArray.mk (encMsg zeroM ++ enc4 (sumN (encMsg zeroM))).toArray).size = 76 := by
    rw [baSize, List.length_append, enc4_length, hl]
  refine (decodeW (hG.at 0 rfl) (by omega)).mono ?_
  rintro e2 w2 ⟨m, k, v, a1, n1, c1, a2, n2, c2, hd, hv, hR⟩
  have hd2 : decodeE (ByteArray.mk (encMsg zeroM ++ enc4 (sumN (encMsg zeroM))).toArray).data.toList = (zeroM, 0) := by
    have := dec_enc ok_zero (by omega)
    simpa using this
  rw [hd2] at hd
  cases hd
  obtain ⟨_, rfl⟩ | ⟨h0, _⟩ := hv
  · have e2 := (hR.gh.choose_spec.2.2.2 _ (List.mem_cons_of_mem _ (List.mem_cons_self ..))).slen
    rw [List.length_map] at e2
    subst e2
    refine ⟨_, _, _, hR, ?_⟩
    try simp only [aQ]
    refine Ym (id := 2) (rest := []) (Rds 2 5 ++ [.wr 5 [] 0, .wr 6 [.o 0 none, .o 0 none, .o 0 none, .o 0 none, .o 0 none, .o 0 none, .o 0 none, .o 0 none, .o 0 none] 0, .rd 7 [] 0 0]) [12, 11] (fun nu1 => [(3, .val (.pointer (some (⟨nu1 0, 0, none⟩)))), (4, .val (.nilIface))]) (fun nu1 => [(nu1 0, .cells #[.int .i64 0, .int .i64 0, .int .i64 0, .int .i64 0, .int .i64 0, .bool false, .slice a1 n1 c1, .int .i64 0, .slice a2 0 c2] 34 (0, 0))]) [] (fun nu1 => ?_)
    refine JR_end ?_
    refine J_seq ?_
    refine Za (Rds 0 13 ++ [.rd 13 [.o 0 none] 0 0] ++ Rds 14 19 ++ [.rd 19 [.o 0 none] 0 0] ++ Rds 20 24) [3, 4, 1, 2] [(0, .val (.bool true))] ?_
    refine Yr [[]] (.bool true) fun a w s => ?_
    exact s.ret (by simp) [] [] rfl rfl
  · exact absurd rfl h0
end Go.Proofs.YtonhcoeneahpaaaDoor
end
section
namespace Go.Proofs.YtonhcoeneahpaaaDoor
open Go Go.Sx
set_option maxHeartbeats 4000000 in
theorem wireReads {w0 : World} {S0 : Nat → Prop} {er : Nat → Addr} {eb : Nat → Array Value × TypeId} {s0 : ByteArray} {sl0 : Bool} (hC : Rep w0 S0 .nilIface (dC er eb)) (hI : Inj er) :
    Calls Tryd.prog 4 #[.string s0, .bool sl0] w0 fun e w' => Ret [] w0 S0 w' e (.bool true) [] [] := by
  have hz0 : s0.data.toList.length = s0.size := by simp
  refine ep4 (args := [.string s0, .bool sl0]) (G := [(_, dC er eb)]) (by kernel_rfl) (.cons hC (.nil _ _)) ?_
  refine J_seq ?_
  refine Za [.rd 0 [] 0 0] [] [(4, .val (.bool false))] ?_
  refine J_seq ?_
  refine jT [(0, false), (1, true)] [] ?_
  refine Yc 5 #[] (some 12) fun w S hG => ?_
  refine (wiredW (hG.at 0 rfl)).mono ?_
  rintro e1 w1 hR
  refine ⟨_, _, _, hR, ?_⟩
  try simp only [aQ]
  refine Ya (id := 1) (rest := []) [.rd 1 [] 0 0] [12] [(5, .val (.bool true))] ?_
  refine JR_end ?_
  refine J_seq ?_
  refine J_seq ?_
  refine Za (Rds 0 7) [] [(19, .val (.bool (decide ((↑s0.size : Int) > 6100))))] ?_
  refine J_cond (t := decide ((↑s0.size : Int) > 6100)) (by kernel_rfl) (by kernel_rfl) (fun hh => ?_) (fun hh => ?_)
  · refine J_seq ?_
    refine Za [.rd 0 [] 0 0, .rd 1 [] 0 0] [19, 5] [(4, .val (.bool true))] ?_
    refine Yr [[]] (.bool true) fun a w s => ?_
    exact s.ret (by simp) [] [] rfl rfl
  · have hb : s0.size ≤ 6100 := by simp at hh; omega
    refine J_skip ?_
    refine J_seq ?_
    refine J_seq ?_
    refine Za [.rd 0 [] 0 0] [19, 5, 1] [(21, .val (.bool sl0))] ?_
    refine J_cond (t := sl0) (by kernel_rfl) (by kernel_rfl) (fun hseal => ?_) (fun hseal => ?_)
    · refine J_seq ?_
      refine jT [(0, true), (1, false), (2, true)] [] ?_
      refine Ya (id := 5) (rest := [(1, false), (2, true)]) [.rd 0 [] 0 0] [21] [(22, .val (.string s0))] ?_
      refine Yc 14 #[.string s0] (some 23) fun w S hG => ?_
      refine (sumRB (S := S) (by omega)).mono ?_
      rintro e2 w2 hR
      refine ⟨_, _, _, hR, ?_⟩
      try simp only [aQ]
      refine Ya (id := 5) (rest := []) [.rd 2 [] 0 0] [23, 22] [(6, .val (.int .i64 ((↑(sumN s0.data.toList) : Int))))] ?_
      refine JR_end ?_
      refine jT [(0, true), (1, true), (2, true), (3, false), (4, true), (5, true), (6, true), (7, false), (8, true), (9, true), (10, true), (11, false), (12, true), (13, true), (14, false), (15, true), (16, true)] [] ?_
      refine Ya (id := 6) (rest := [(3, false), (4, true), (5, true), (6, true), (7, false), (8, true), (9, true), (10, true), (11, false), (12, true), (13, true), (14, false), (15, true), (16, true)]) (Rds 0 3) [] [(24, .val (.string s0)), (26, .val (.int .i64 ((↑(sumN s0.data.toList) : Int).fdiv (2 ^ min (Int.toNat 24) IntKind.i64.bits))))] ?_
      refine Yc 15 #[.int .i64 ((↑(sumN s0.data.toList) : Int).fdiv (2 ^ min (Int.toNat 24) IntKind.i64.bits))] (some 27) fun w S hG => ?_
      refine (byteW (S := S)).mono ?_
      rintro e3 w3 hR
      refine ⟨_, _, _, hR, ?_⟩
      try simp only [aQ]
      refine Yp (id := 6) (rest := [(7, false), (8, true), (9, true), (10, true), (11, false), (12, true), (13, true), (14, false), (15, true), (16, true)]) [.rd 4 [.r 0 (some (.string (ByteArray.mk (s0.data.toList ++ [byteI ((↑(sumN s0.data.toList) : Int).fdiv (2 ^ min (Int.toNat 24) IntKind.i64.bits)) 0]).toArray)))] 0 10, .rd 5 [] 0 0, .rd 6 [] 0 0] [27, 24, 26] [(28, .val (.string (ByteArray.mk (s0.data.toList ++ [byteI ((↑(sumN s0.data.toList) : Int).fdiv (2 ^ min (Int.toNat 24) IntKind.i64.bits)) 0]).toArray))), (30, .val (.int .i64 ((↑(sumN s0.data.toList) : Int).fdiv (2 ^ min (Int.toNat 16) IntKind.i64.bits))))] [eqRun Tryd.prog .add 9 (Operand.tmp 24) (Operand.tmp 27) (.string (ByteArray.mk s0.data.toList.toArray)) (.string (ByteArray.mk #[byteI ((↑(sumN s0.data.toList) : Int).fdiv (2 ^ min (Int.toNat 24) IntKind.i64.bits)) 0])) (.string (ByteArray.mk (s0.data.toList ++ [byteI ((↑(sumN s0.data.toList) : Int).fdiv (2 ^ min (Int.toNat 24) IntKind.i64.bits)) 0]).toArray))] ⟨eqRun_cat _ _ (by simp only [List.length_cons, List.length_nil]; omega), trivial⟩ ?_
      refine Yc 15 #[.int .i64 ((↑(sumN s0.data.toList) : Int).fdiv (2 ^ min (Int.toNat 16) IntKind.i64.bits))] (some 31) fun w S hG => ?_
      refine (byteW (S := S)).mono ?_
      rintro e4 w4 hR
      refine ⟨_, _, _, hR, ?_⟩
      try simp only [aQ]
      refine Yp (id := 6) (rest := [(11, false), (12, true), (13, true), (14, false), (15, true), (16, true)]) [.rd 8 [.r 0 (some (.string (ByteArray.mk (s0.data.toList ++ [byteI ((↑(sumN s0.data.toList) : Int).fdiv (2 ^ min (Int.toNat 24) IntKind.i64.bits)) 0] ++ [byteI ((↑(sumN s0.data.toList) : Int).fdiv (2 ^ min (Int.toNat 16) IntKind.i64.bits)) 0]).toArray)))] 0 10, .rd 9 [] 0 0, .rd 10 [] 0 0] [31, 28, 30] [(32, .val (.string (ByteArray.mk (s0.data.toList ++ [byteI ((↑(sumN s0.data.toList) : Int).fdiv (2 ^ min (Int.toNat 24) IntKind.i64.bits)) 0] ++ [byteI ((↑(sumN s0.data.toList) : Int).fdiv (2 ^ min (Int.toNat 16) IntKind.i64.bits)) 0]).toArray))), (34, .val (.int .i64 ((↑(sumN s0.data.toList) : Int).fdiv (2 ^ min (Int.toNat 8) IntKind.i64.bits))))] [eqRun Tryd.prog .add 9 (Operand.tmp 28) (Operand.tmp 31) (.string (ByteArray.mk (s0.data.toList ++ [byteI ((↑(sumN s0.data.toList) : Int).fdiv (2 ^ min (Int.toNat 24) IntKind.i64.bits)) 0]).toArray)) (.string (ByteArray.mk #[byteI ((↑(sumN s0.data.toList) : Int).fdiv (2 ^ min (Int.toNat 16) IntKind.i64.bits)) 0])) (.string (ByteArray.mk (s0.data.toList ++ [byteI ((↑(sumN s0.data.toList) : Int).fdiv (2 ^ min (Int.toNat 24) IntKind.i64.bits)) 0] ++ [byteI ((↑(sumN s0.data.toList) : Int).fdiv (2 ^ min (Int.toNat 16) IntKind.i64.bits)) 0]).toArray))] ⟨eqRun_cat _ _ (by simp only [List.length_append, List.length_cons, List.length_nil]; omega), trivial⟩ ?_
      refine Yc 15 #[.int .i64 ((↑(sumN s0.data.toList) : Int).fdiv (2 ^ min (Int.toNat 8) IntKind.i64.bits))] (some 35) fun w S hG => ?_
      refine (byteW (S := S)).mono ?_
      rintro e5 w5 hR
      refine ⟨_, _, _, hR, ?_⟩
      try simp only [aQ]
      refine Yp (id := 6) (rest := [(14, false), (15, true), (16, true)]) [.rd 12 [.r 0 (some (.string (ByteArray.mk (s0.data.toList ++ [byteI ((↑(sumN s0.data.toList) : Int).fdiv (2 ^ min (Int.toNat 24) IntKind.i64.bits)) 0] ++ [byteI ((↑(sumN s0.data.toList) : Int).fdiv (2 ^ min (Int.toNat 16) IntKind.i64.bits)) 0] ++ [byteI ((↑(sumN s0.data.toList) : Int).fdiv (2 ^ min (Int.toNat 8) IntKind.i64.bits)) 0]).toArray)))] 0 10, .rd 13 [] 0 0] [35, 32, 34, 6] [(36, .val (.string (ByteArray.mk (s0.data.toList ++ [byteI ((↑(sumN s0.data.toList) : Int).fdiv (2 ^ min (Int.toNat 24) IntKind.i64.bits)) 0] ++ [byteI ((↑(sumN s0.data.toList) : Int).fdiv (2 ^ min (Int.toNat 16) IntKind.i64.bits)) 0] ++ [byteI ((↑(sumN s0.data.toList) : Int).fdiv (2 ^ min (Int.toNat 8) IntKind.i64.bits)) 0]).toArray))), (37, .val (.int .i64 ((↑(sumN s0.data.toList) : Int))))] [eqRun Tryd.prog .add 9 (Operand.tmp 32) (Operand.tmp 35) (.string (ByteArray.mk (s0.data.toList ++ [byteI ((↑(sumN s0.data.toList) : Int).fdiv (2 ^ min (Int.toNat 24) IntKind.i64.bits)) 0] ++ [byteI ((↑(sumN s0.data.toList) : Int).fdiv (2 ^ min (Int.toNat 16) IntKind.i64.bits)) 0]).toArray)) (.string (ByteArray.mk #[byteI ((↑(sumN s0.data.toList) : Int).fdiv (2 ^ min (Int.toNat 8) IntKind.i64.bits)) 0])) (.string (ByteArray.mk (s0.data.toList ++ [byteI ((↑(sumN s0.data.toList) : Int).fdiv (2 ^ min (Int.toNat 24) IntKind.i64.bits)) 0] ++ [byteI ((↑(sumN s0.data.toList) : Int).fdiv (2 ^ min (Int.toNat 16) IntKind.i64.bits)) 0] ++ [byteI ((↑(sumN s0.data.toList) : Int).fdiv (2 ^ min (Int.toNat 8) IntKind.i64.bits)) 0]).toArray))] ⟨eqRun_cat _ _ (by simp only [List.length_append, List.length_cons, List.length_nil]; omega), trivial⟩ ?_
      refine Yc 15 #[.int .i64 ((↑(sumN s0.data.toList) : Int))] (some 38) fun w S hG => ?_
      refine (byteW (S := S)).mono ?_
      rintro e6 w6 hR
      refine ⟨_, _, _, hR, ?_⟩
      try simp only [aQ]
      refine Yp (id := 6) (rest := []) [.rd 15 [.r 0 (some (.string (ByteArray.mk (s0.data.toList ++ [byteI ((↑(sumN s0.data.toList) : Int).fdiv (2 ^ min (Int.toNat 24) IntKind.i64.bits)) 0] ++ [byteI ((↑(sumN s0.data.toList) : Int).fdiv (2 ^ min (Int.toNat 16) IntKind.i64.bits)) 0] ++ [byteI ((↑(sumN s0.data.toList) : Int).fdiv (2 ^ min (Int.toNat 8) IntKind.i64.bits)) 0] ++ [byteI (↑(sumN s0.data.toList) : Int) 0]).toArray)))] 0 10, .rd 16 [] 0 0] [38, 36, 37] [(0, .val (.string (ByteArray.mk (s0.data.toList ++ [byteI ((↑(sumN s0.data.toList) : Int).fdiv (2 ^ min (Int.toNat 24) IntKind.i64.bits)) 0] ++ [byteI ((↑(sumN s0.data.toList) : Int).fdiv (2 ^ min (Int.toNat 16) IntKind.i64.bits)) 0] ++ [byteI ((↑(sumN s0.data.toList) : Int).fdiv (2 ^ min (Int.toNat 8) IntKind.i64.bits)) 0] ++ [byteI (↑(sumN s0.data.toList) : Int) 0]).toArray)))] [eqRun Tryd.prog .add 9 (Operand.tmp 36) (Operand.tmp 38) (.string (ByteArray.mk (s0.data.toList ++ [byteI ((↑(sumN s0.data.toList) : Int).fdiv (2 ^ min (Int.toNat 24) IntKind.i64.bits)) 0] ++ [byteI ((↑(sumN s0.data.toList) : Int).fdiv (2 ^ min (Int.toNat 16) IntKind.i64.bits)) 0] ++ [byteI ((↑(sumN s0.data.toList) : Int).fdiv (2 ^ min (Int.toNat 8) IntKind.i64.bits)) 0]).toArray)) (.string (ByteArray.mk #[byteI (↑(sumN s0.data.toList) : Int) 0])) (.string (ByteArray.mk (s0.data.toList ++ [byteI ((↑(sumN s0.data.toList) : Int).fdiv (2 ^ min (Int.toNat 24) IntKind.i64.bits)) 0] ++ [byteI ((↑(sumN s0.data.toList) : Int).fdiv (2 ^ min (Int.toNat 16) IntKind.i64.bits)) 0] ++ [byteI ((↑(sumN s0.data.toList) : Int).fdiv (2 ^ min (Int.toNat 8) IntKind.i64.bits)) 0] ++ [byteI (↑(sumN s0.data.toList) : Int) 0]).toArray))] ⟨eqRun_cat _ _ (by simp only [List.length_append, List.length_cons, List.length_nil]; omega), trivial⟩ ?_
      refine JR_end ?_
      refine J_seq ?_
      obtain ⟨t0, ht⟩ : ∃ t, t = ByteArray.mk (s0.data.toList ++ [byteI ((sumN s0.data.toList : Int).fdiv (2 ^ min (Int.toNat 24) IntKind.i64.bits)) 0] ++ [byteI ((sumN s0.data.toList : Int).fdiv (2 ^ min (Int.toNat 16) IntKind.i64.bits)) 0] ++ [byteI ((sumN s0.data.toList : Int).fdiv (2 ^ min (Int.toNat 8) IntKind.i64.bits)) 0] ++ [byteI (sumN s0.data.toList : Int) 0]).toArray := ⟨_, rfl⟩
      rw [← ht]
      have hts : t0.size = s0.size + 4 := by
        rw [ht, baSize]
        simp
      have hsz : t0.size ≤ 90000 := by omega
      refine jT [(0, true), (1, false), (2, true), (3, true), (4, true), (5, false), (6, false), (7, true)] [] ?_
      refine Ya (id := 7) (rest := [(1, false), (2, true), (3, true), (4, true), (5, false), (6, false), (7, true)]) [.rd 0 [] 0 0] [] [(41, .val (.string t0))] ?_
      refine Yc 11 #[.string t0] (some 42) fun w S hG => ?_
      refine (decodeW (hG.at 0 rfl) hsz).mono ?_
      rintro e10 w10 ⟨m, k, v, a1, n1, c1, a2, n2, c2, hd, hv, hR⟩
      obtain ⟨hk, l1, l2, l3⟩ := dec_small hd
      refine ⟨_, _, _, hR, ?_⟩
      try simp only [aQ]
      refine Ym (id := 7) (rest := []) (Rds 2 5 ++ [.wr 5 [] 0, .wr 6 [.o 0 none, .o 0 none, .o 0 none, .o 0 none, .o 0 none, .o 0 none, .o 0 none, .o 0 none, .o 0 none] 0, .rd 7 [] 0 0]) [42, 41] (fun nu1 => [(7, .val (.pointer (some (⟨nu1 0, 0, none⟩)))), (8, .val (v))]) (fun nu1 => [(nu1 0, .cells #[.int .i64 m.fm, .int .i64 m.to, .int .i64 m.shard, .int .i64 m.seq, .int .i64 m.time, .bool m.beat, .slice a1 n1 c1, .int .i64 m.c.place, .slice a2 n2 c2] 34 (0, 0))]) [] (fun nu1 => ?_)
      refine JR_end ?_
      refine J_seq ?_
      refine jT [(0, true), (1, false), (2, true), (3, true), (4, true), (5, false), (6, false), (7, true)] [] ?_
      refine Ya (id := 8) (rest := [(1, false), (2, true), (3, true), (4, true), (5, false), (6, false), (7, true)]) [.rd 0 [] 0 0] [] [(46, .val (.string t0))] ?_
      refine Yc 16 #[.string t0] (some 47) fun w S hG => ?_
      refine (unwireW (S0 := S) hsz).mono ?_
      rintro e11 w11 ⟨m', k', x1, y1, z1, x2, y2, z2, hd', hR⟩
      rw [unwire_same, hd] at hd'
      cases hd'
      refine ⟨_, _, _, hR, ?_⟩
      try simp only [aQ]
      refine Ym (id := 8) (rest := []) (Rds 2 5 ++ [.wr 5 [] 0, .wr 6 [.o 1 none, .o 1 none, .o 1 none, .o 1 none, .o 1 none, .o 1 none, .o 1 none, .o 1 none, .o 1 none] 0, .rd 7 [] 0 0]) [47, 46] (fun nu2 => [(9, .val (.pointer (some (⟨nu2 0, 0, none⟩)))), (10, .val (.int .i64 (↑k : Int)))]) (fun nu2 => [(nu1 0, .cells #[.int .i64 m.fm, .int .i64 m.to, .int .i64 m.shard, .int .i64 m.seq, .int .i64 m.time, .bool m.beat, .slice a1 n1 c1, .int .i64 m.c.place, .slice a2 n2 c2] 34 (0, 0)), (nu2 0, .cells #[.int .i64 m.fm, .int .i64 m.to, .int .i64 m.shard, .int .i64 m.seq, .int .i64 m.time, .bool m.beat, .slice x1 y1 z1, .int .i64 m.c.place, .slice x2 y2 z2] 27 (0, 0))]) [] (fun nu2 => ?_)
      refine JR_end ?_
      refine J_seq ?_
      refine J_seq ?_
      refine jT [(0, true), (1, true), (2, false), (3, true), (4, true), (5, true), (7, true), (6, false), (8, false), (9, true), (10, true)] [] ?_
      refine Ya (id := 9) (rest := [(2, false), (3, true), (4, true), (5, true), (7, true), (6, false), (8, false), (9, true), (10, true)]) [.rd 0 [] 0 0, .rd 1 [] 0 0] [] [(50, .val (v)), (51, .val (.int .i64 (↑k : Int)))] ?_
      refine Yc 10 #[v, .int .i64 (↑k : Int)] (some 52) fun w S hG => ?_
      refine (codedW (hG.at 0 rfl) hI hk hv).mono ?_
      rintro e12 w12 hR
      refine ⟨_, _, _, hR, ?_⟩
      try simp only [aQ]
      refine Ya (id := 9) (rest := [(6, false), (8, false), (9, true), (10, true)]) [.rd 3 [] 0 0, .rd 4 [] 0 0, .rd 5 [.o 0 none, .o 0 none, .o 0 none, .o 0 none, .o 0 none, .o 0 none, .o 0 none, .o 0 none, .o 0 none] 0 0, .rd 7 [.o 1 none, .o 1 none, .o 1 none, .o 1 none, .o 1 none, .o 1 none, .o 1 none, .o 1 none, .o 1 none] 0 0] [52, 50, 51, 9] [(54, .val (.bool false)), (55, .val (.agg #[.int .i64 m.fm, .int .i64 m.to, .int .i64 m.shard, .int .i64 m.seq, .int .i64 m.time, .bool m.beat, .slice a1 n1 c1, .int .i64 m.c.place, .slice a2 n2 c2])), (57, .val (.agg #[.int .i64 m.fm, .int .i64 m.to, .int .i64 m.shard, .int .i64 m.seq, .int .i64 m.time, .bool m.beat, .slice x1 y1 z1, .int .i64 m.c.place, .slice x2 y2 z2]))] ?_
      refine Yc 13 #[.agg #[.int .i64 m.fm, .int .i64 m.to, .int .i64 m.shard, .int .i64 m.seq, .int .i64 m.time, .bool m.beat, .slice a1 n1 c1, .int .i64 m.c.place, .slice a2 n2 c2]] (some 56) fun w S hG => ?_
      refine (backWire (S := S) (m := m) rfl rfl).mono ?_
      rintro e13 w13 hR
      refine ⟨_, _, _, hR, ?_⟩
      try simp only [aQ]
      refine Yc 12 #[.agg #[.int .i64 m.fm, .int .i64 m.to, .int .i64 m.shard, .int .i64 m.seq, .int .i64 m.time, .bool m.beat, .slice a1 n1 c1, .int .i64 m.c.place, .slice a2 n2 c2], .agg #[.int .i64 m.fm, .int .i64 m.to, .int .i64 m.shard, .int .i64 m.seq, .int .i64 m.time, .bool m.beat, .slice x1 y1 z1, .int .i64 m.c.place, .slice x2 y2 z2]] (some 58) fun w S hG => ?_
      refine (sameMessage_eq (m := m) (hG.at 1 rfl) (hG.at 2 rfl) (hG.at 3 rfl) (hG.at 4 rfl) l1 l2 l3).mono ?_
      rintro e14 w14 hR
      refine ⟨_, _, _, hR, ?_⟩
      try simp only [aQ]
      refine Ya (id := 9) (rest := []) [.rd 9 [] 0 0, .rd 10 [] 0 0] [58, 56, 54, 55, 57] [(60, .val (.bool false))] ?_
      refine JR_end ?_
      refine J_cond_f (by kernel_rfl) (by kernel_rfl) ?_
      refine J_skip ?_
      refine J_seq ?_
      refine J_seq ?_
      refine Za [.rd 0 [] 0 0, .rd 1 [] 0 0] [60, 10] [(62, .val (.bool (decide ((↑k : Int) > 0))))] ?_
      refine J_cond (t := decide ((↑k : Int) > 0)) (by kernel_rfl) (by kernel_rfl) (fun he => ?_) (fun he => ?_)
      · refine J_seq ?_
        refine Za [.rd 0 [] 0 0] [62] [(4, .val (.bool true))] ?_
        refine Yr [[]] (.bool true) fun a w s => ?_
        exact s.ret (by simp) [] [] rfl rfl
      · obtain rfl : k = 0 := by simp at he; omega
        obtain ⟨g1, g2⟩ := enc_dec hd
        refine J_skip ?_
        refine J_seq ?_
        refine jT [(0, true), (1, false), (2, true), (3, true), (4, true), (5, true), (6, true)] [] ?_
        refine Ya (id := 13) (rest := [(1, false), (2, true), (3, true), (4, true), (5, true), (6, true)]) [.rd 0 [.o 0 none, .o 0 none, .o 0 none, .o 0 none, .o 0 none, .o 0 none, .o 0 none, .o 0 none, .o 0 none] 0 0] [62, 7] [(64, .val (.agg #[.int .i64 m.fm, .int .i64 m.to, .int .i64 m.shard, .int .i64 m.seq, .int .i64 m.time, .bool m.beat, .slice a1 n1 c1, .int .i64 m.c.place, .slice a2 n2 c2]))] ?_
        refine Yc 7 #[.agg #[.int .i64 m.fm, .int .i64 m.to, .int .i64 m.shard, .int .i64 m.seq, .int .i64 m.time, .bool m.beat, .slice a1 n1 c1, .int .i64 m.c.place, .slice a2 n2 c2]] (some 65) fun w S hG => ?_
        refine (encodeW (m := m) (hG.at 0 rfl) (hG.at 1 rfl) (hG.at 2 rfl) (by omega)).mono ?_
        rintro e15 w15 (⟨hbig, hR⟩ | ⟨hbig, hR⟩)
        · omega
        · refine ⟨_, _, _, hR, ?_⟩
          have g3 : t0 = ByteArray.mk (encMsg m ++ enc4 (sumN (encMsg m))).toArray := ba_of g1
          try simp only [aQ]
          refine Ya (id := 13) (rest := []) (Rds 2 7) [65, 64] [(8, .val (.nilIface)), (11, .val (.string (ByteArray.mk (encMsg m ++ enc4 (↑(sumN (encMsg m)) : Int)).toArray)))] ?_
          refine JR_end ?_
          refine J_seq ?_
          refine Za (Rds 0 8) [8, 11, 0] [(4, .val (.bool ((ByteArray.mk (encMsg m ++ enc4 (↑(sumN (encMsg m)) : Int)).toArray).toList == t0.toList)))] ?_
          refine Yr [[]] (.bool ((ByteArray.mk (encMsg m ++ enc4 (↑(sumN (encMsg m)) : Int)).toArray).toList == t0.toList)) fun a w s => ?_
          rw [g3, beq_self_eq_true]
          exact s.ret (by simp) [] [] rfl rfl
    · refine J_skip ?_
      refine J_seq ?_
      have hsz : s0.size ≤ 90000 := by omega
      refine jT [(0, true), (1, false), (2, true), (3, true), (4, true), (5, false), (6, false), (7, true)] [] ?_
      refine Ya (id := 7) (rest := [(1, false), (2, true), (3, true), (4, true), (5, false), (6, false), (7, true)]) [.rd 0 [] 0 0] [21] [(41, .val (.string s0))] ?_
      refine Yc 11 #[.string s0] (some 42) fun w S hG => ?_
      refine (decodeW (hG.at 0 rfl) hsz).mono ?_
      rintro e10 w10 ⟨m, k, v, a1, n1, c1, a2, n2, c2, hd, hv, hR⟩
      obtain ⟨hk, l1, l2, l3⟩ := dec_small hd
      refine ⟨_, _, _, hR, ?_⟩
      try simp only [aQ]
      refine Ym (id := 7) (rest := []) (Rds 2 5 ++ [.wr 5 [] 0, .wr 6 [.o 0 none, .o 0 none, .o 0 none, .o 0 none, .o 0 none, .o 0 none, .o 0 none, .o 0 none, .o 0 none] 0, .rd 7 [] 0 0]) [42, 41] (fun nu1 => [(7, .val (.pointer (some (⟨nu1 0, 0, none⟩)))), (8, .val (v))]) (fun nu1 => [(nu1 0, .cells #[.int .i64 m.fm, .int .i64 m.to, .int .i64 m.shard, .int .i64 m.seq, .int .i64 m.time, .bool m.beat, .slice a1 n1 c1, .int .i64 m.c.place, .slice a2 n2 c2] 34 (0, 0))]) [] (fun nu1 => ?_)
      refine JR_end ?_
      refine J_seq ?_
      refine jT [(0, true), (1, false), (2, true), (3, true), (4, true), (5, false), (6, false), (7, true)] [] ?_
      refine Ya (id := 8) (rest := [(1, false), (2, true), (3, true), (4, true), (5, false), (6, false), (7, true)]) [.rd 0 [] 0 0] [] [(46, .val (.string s0))] ?_
      refine Yc 16 #[.string s0] (some 47) fun w S hG => ?_
      refine (unwireW (S0 := S) hsz).mono ?_
      rintro e11 w11 ⟨m', k', x1, y1, z1, x2, y2, z2, hd', hR⟩
      rw [unwire_same, hd] at hd'
      cases hd'
      refine ⟨_, _, _, hR, ?_⟩
      try simp only [aQ]
      refine Ym (id := 8) (rest := []) (Rds 2 5 ++ [.wr 5 [] 0, .wr 6 [.o 1 none, .o 1 none, .o 1 none, .o 1 none, .o 1 none, .o 1 none, .o 1 none, .o 1 none, .o 1 none] 0, .rd 7 [] 0 0]) [47, 46] (fun nu2 => [(9, .val (.pointer (some (⟨nu2 0, 0, none⟩)))), (10, .val (.int .i64 (↑k : Int)))]) (fun nu2 => [(nu1 0, .cells #[.int .i64 m.fm, .int .i64 m.to, .int .i64 m.shard, .int .i64 m.seq, .int .i64 m.time, .bool m.beat, .slice a1 n1 c1, .int .i64 m.c.place, .slice a2 n2 c2] 34 (0, 0)), (nu2 0, .cells #[.int .i64 m.fm, .int .i64 m.to, .int .i64 m.shard, .int .i64 m.seq, .int .i64 m.time, .bool m.beat, .slice x1 y1 z1, .int .i64 m.c.place, .slice x2 y2 z2] 27 (0, 0))]) [] (fun nu2 => ?_)
      refine JR_end ?_
      refine J_seq ?_
      refine J_seq ?_
      refine jT [(0, true), (1, true), (2, false), (3, true), (4, true), (5, true), (7, true), (6, false), (8, false), (9, true), (10, true)] [] ?_
      refine Ya (id := 9) (rest := [(2, false), (3, true), (4, true), (5, true), (7, true), (6, false), (8, false), (9, true), (10, true)]) [.rd 0 [] 0 0, .rd 1 [] 0 0] [] [(50, .val (v)), (51, .val (.int .i64 (↑k : Int)))] ?_
      refine Yc 10 #[v, .int .i64 (↑k : Int)] (some 52) fun w S hG => ?_
      refine (codedW (hG.at 0 rfl) hI hk hv).mono ?_
      rintro e12 w12 hR
      refine ⟨_, _, _, hR, ?_⟩
      try simp only [aQ]
      refine Ya (id := 9) (rest := [(6, false), (8, false), (9, true), (10, true)]) [.rd 3 [] 0 0, .rd 4 [] 0 0, .rd 5 [.o 0 none, .o 0 none, .o 0 none, .o 0 none, .o 0 none, .o 0 none, .o 0 none, .o 0 none, .o 0 none] 0 0, .rd 7 [.o 1 none, .o 1 none, .o 1 none, .o 1 none, .o 1 none, .o 1 none, .o 1 none, .o 1 none, .o 1 none] 0 0] [52, 50, 51, 9] [(54, .val (.bool false)), (55, .val (.agg #[.int .i64 m.fm, .int .i64 m.to, .int .i64 m.shard, .int .i64 m.seq, .int .i64 m.time, .bool m.beat, .slice a1 n1 c1, .int .i64 m.c.place, .slice a2 n2 c2])), (57, .val (.agg #[.int .i64 m.fm, .int .i64 m.to, .int .i64 m.shard, .int .i64 m.seq, .int .i64 m.time, .bool m.beat, .slice x1 y1 z1, .int .i64 m.c.place, .slice x2 y2 z2]))] ?_
      refine Yc 13 #[.agg #[.int .i64 m.fm, .int .i64 m.to, .int .i64 m.shard, .int .i64 m.seq, .int .i64 m.time, .bool m.beat, .slice a1 n1 c1, .int .i64 m.c.place, .slice a2 n2 c2]] (some 56) fun w S hG => ?_
      refine (backWire (S := S) (m := m) rfl rfl).mono ?_
      rintro e13 w13 hR
      refine ⟨_, _, _, hR, ?_⟩
      try simp only [aQ]
      refine Yc 12 #[.agg #[.int .i64 m.fm, .int .i64 m.to, .int .i64 m.shard, .int .i64 m.seq, .int .i64 m.time, .bool m.beat, .slice a1 n1 c1, .int .i64 m.c.place, .slice a2 n2 c2], .agg #[.int .i64 m.fm, .int .i64 m.to, .int .i64 m.shard, .int .i64 m.seq, .int .i64 m.time, .bool m.beat, .slice x1 y1 z1, .int .i64 m.c.place, .slice x2 y2 z2]] (some 58) fun w S hG => ?_
      refine (sameMessage_eq (m := m) (hG.at 1 rfl) (hG.at 2 rfl) (hG.at 3 rfl) (hG.at 4 rfl) l1 l2 l3).mono ?_
      rintro e14 w14 hR
      refine ⟨_, _, _, hR, ?_⟩
      try simp only [aQ]
      refine Ya (id := 9) (rest := []) [.rd 9 [] 0 0, .rd 10 [] 0 0] [58, 56, 54, 55, 57] [(60, .val (.bool false))] ?_
      refine JR_end ?_
      refine J_cond_f (by kernel_rfl) (by kernel_rfl) ?_
      refine J_skip ?_
      refine J_seq ?_
      refine J_seq ?_
      refine Za [.rd 0 [] 0 0, .rd 1 [] 0 0] [60, 10] [(62, .val (.bool (decide ((↑k : Int) > 0))))] ?_
      refine J_cond (t := decide ((↑k : Int) > 0)) (by kernel_rfl) (by kernel_rfl) (fun he => ?_) (fun he => ?_)
      · refine J_seq ?_
        refine Za [.rd 0 [] 0 0] [62] [(4, .val (.bool true))] ?_
        refine Yr [[]] (.bool true) fun a w s => ?_
        exact s.ret (by simp) [] [] rfl rfl
      · obtain rfl : k = 0 := by simp at he; omega
        obtain ⟨g1, g2⟩ := enc_dec hd
        refine J_skip ?_
        refine J_seq ?_
        refine jT [(0, true), (1, false), (2, true), (3, true), (4, true), (5, true), (6, true)] [] ?_
        refine Ya (id := 13) (rest := [(1, false), (2, true), (3, true), (4, true), (5, true), (6, true)]) [.rd 0 [.o 0 none, .o 0 none, .o 0 none, .o 0 none, .o 0 none, .o 0 none, .o 0 none, .o 0 none, .o 0 none] 0 0] [62, 7] [(64, .val (.agg #[.int .i64 m.fm, .int .i64 m.to, .int .i64 m.shard, .int .i64 m.seq, .int .i64 m.time, .bool m.beat, .slice a1 n1 c1, .int .i64 m.c.place, .slice a2 n2 c2]))] ?_
        refine Yc 7 #[.agg #[.int .i64 m.fm, .int .i64 m.to, .int .i64 m.shard, .int .i64 m.seq, .int .i64 m.time, .bool m.beat, .slice a1 n1 c1, .int .i64 m.c.place, .slice a2 n2 c2]] (some 65) fun w S hG => ?_
        refine (encodeW (m := m) (hG.at 0 rfl) (hG.at 1 rfl) (hG.at 2 rfl) (by omega)).mono ?_
        rintro e15 w15 (⟨hbig, hR⟩ | ⟨hbig, hR⟩)
        · omega
        · refine ⟨_, _, _, hR, ?_⟩
          have g3 : s0 = ByteArray.mk (encMsg m ++ enc4 (sumN (encMsg m))).toArray := ba_of g1
          try simp only [aQ]
          refine Ya (id := 13) (rest := []) (Rds 2 7) [65, 64] [(8, .val (.nilIface)), (11, .val (.string (ByteArray.mk (encMsg m ++ enc4 (↑(sumN (encMsg m)) : Int)).toArray)))] ?_
          refine JR_end ?_
          refine J_seq ?_
          refine Za (Rds 0 8) [8, 11, 0] [(4, .val (.bool ((ByteArray.mk (encMsg m ++ enc4 (↑(sumN (encMsg m)) : Int)).toArray).toList == s0.toList)))] ?_
          refine Yr [[]] (.bool ((ByteArray.mk (encMsg m ++ enc4 (↑(sumN (encMsg m)) : Int)).toArray).toList == s0.toList)) fun a w s => ?_
          rw [g3, beq_self_eq_true]
          exact s.ret (by simp) [] [] rfl rfl
end Go.Proofs.YtonhcoeneahpaaaDoor
end
section
namespace Go.Sx
open Go Go.RowKit Go.ChangeShapes Go.WideShapes
theorem Fr.below {w w' : World} (h : Fr [] w w') : Below w.heap.size w w' := ⟨h.os, h.tape, h.output, h.size, fun b hb => h.block b hb (by simp)⟩
theorem cell_blk {w : World} {a : Addr} {v : Value} (h : w.cell? a = some v) : ∃ cs ty fz, w.heap[a.block]? = some (.cells cs ty fz) ∧ a.spot = none ∧ cs[a.off]? = some v := by
  unfold World.cell? at h
  split at h
  · rename_i cs ty fz hb
    split at h
    · cases h
    · rename_i hs
      exact ⟨cs, ty, fz, hb, by simpa using hs, h⟩
  · cases h
section
variable {H : Type} {enc : TypeId × Value → H} {P : Program}
theorem rep_var {W : World} {n : String} {g : Nat} {x : Value} (hg : P.globalNamed n = some g) (h : W.var? P n = some #[x]) (hx : x.oneCell' = true) : Rep W (fun _ => True) (.pointer (some ⟨g, 0, none⟩)) (.ptr [.v x]) := by
  unfold World.var? at h
  simp only [hg, Option.bind_some] at h
  split at h
  · rename_i cs ty fz hb
    cases h
    refine .ptr (fun _ => x) hb trivial (fun j hj => ?_) (fun j d hj => ?_)
    · obtain rfl : j = 0 := by simpa using hj
      rfl
    · match j, hj with
      | 0, hj =>
        simp only [List.getElem?_cons_zero, Option.some.injEq] at hj
        subst hj
        exact .v hx
      | j + 1, hj => simp at hj
  · cases h
theorem sents {W : World} {ti tp te ts : TypeId} {ms : Array (String × TypeId)} {nm : String} {f : Field} (hi : P.underlying ti = some (.interface ms)) (hrow : ∀ u, P.typeName? 3 u = some nm → u = tp)
    (hp : P.underlying tp = some (.pointer te)) (he : P.underlying te = some (.struct #[f])) (hft : f.type = ts) (hfo : f.offset = 0) (hs : P.underlying ts = some .string) (hc : P.cellsOf te = 1) (hcs : P.cellsOf ts = 1) :
    ∀ (ns : List (String × List UInt8)) (ps : List MemPlace), DataW.LaidVars P W (ns.map fun x => (x.1, DataW.iface nm (.ptr (.agg [.lit (.string x.2)])))) ps →
      ns.all (fun x => match P.globalNamed x.1 with
        | some g => (P.globals[g]?).map (·.type) == some ti
        | none => false) = true →
      (∀ b off, MemPlace.cell b off ∈ ps → ∀ u v, W.cell? ⟨b, off, none⟩ = some (.iface u v) → Value.okWide P W .any 0 u v) →
      ∃ adz : List Addr, adz.length = ns.length ∧ (∀ (i : Nat) x a, ns[i]? = some x → adz[i]? = some a → W.var? P x.1 = some #[.iface tp (.pointer (some a))] ∧ a.spot = none) ∧ (adz.map fun a => MemPlace.cell a.block a.off).Sublist ps
  | [], ps, _, _, _ => ⟨[], rfl, by simp, by simp⟩
  | (n, text) :: ns, ps, h, hg, hr => by
    rw [List.map_cons] at h
    obtain ⟨g0, t0, cs0, f0, p0, q0, hg0, ht0, hv0, hd0, hq, e0⟩ := h
    rw [List.all_cons, Bool.and_eq_true] at hg
    obtain ⟨hg1, hg2⟩ := hg
    simp only [hg0, ht0, beq_iff_eq, Option.some.injEq] at hg1
    subst hg1 e0
    obtain ⟨l0⟩ := cs0
    have ok0 : ∀ u v, l0 = [.iface u v] → Value.okWide P W .any 0 u v := fun u v e => by
      subst e
      exact hr g0 0 (by simp [MemPlace.row]) u v (by simpa using World.var?_cell hg0 hv0 0)
    obtain ⟨a0, s0, rfl, hc0, hs0, hz0, rfl⟩ := errorString_of_trod hi hrow hp he hft hfo hs hc hcs hd0 ok0
    obtain ⟨adz, h1, h2, h3⟩ := sents hi hrow hp he hft hfo hs hc hcs ns q0 hq hg2 fun b off hm => hr b off (List.mem_append_right _ hm)
    obtain ⟨_, _, _, _, hspot, _⟩ := cell_blk hc0
    refine ⟨a0 :: adz, by simp [h1], fun i x a hx ha => ?_, ?_⟩
    · cases i with
      | zero =>
        simp only [List.getElem?_cons_zero, Option.some.injEq] at hx ha
        subst hx ha
        exact ⟨hv0, hspot⟩
      | succ i =>
        simp only [List.getElem?_cons_succ] at hx ha
        exact h2 i x a hx ha
    · rw [List.map_cons, List.append_assoc]
      refine (List.Sublist.cons_cons _ h3).trans (?_ : List.Sublist _ (MemPlace.row a0 1 ++ q0)) |>.trans (List.sublist_append_right _ _)
      simp [MemPlace.row]
theorem errs_of {W : World} {ti tp te ts : TypeId} {ms : Array (String × TypeId)} {nm : String} {f : Field} (hi : P.underlying ti = some (.interface ms)) (hrow : ∀ u, P.typeName? 3 u = some nm → u = tp)
    (hp : P.underlying tp = some (.pointer te)) (he : P.underlying te = some (.struct #[f])) (hft : f.type = ts) (hfo : f.offset = 0) (hs : P.underlying ts = some .string) (hc : P.cellsOf te = 1) (hcs : P.cellsOf ts = 1)
    (ns : List (String × List UInt8)) (h : laidMet P (ns.map fun x => (x.1, DataW.iface nm (.ptr (.agg [.lit (.string x.2)])))) W)
    (hg : ns.all (fun x => match P.globalNamed x.1 with
        | some g => (P.globals[g]?).map (·.type) == some ti
        | none => false) = true) :
    ∃ (er : Nat → Addr) (eb : Nat → Array Value × TypeId), (∀ (i : Nat) x, ns[i]? = some x → W.var? P x.1 = some #[.iface tp (.pointer (some (er (i + 1))))] ∧ W.heap[(er (i + 1)).block]? = some (.cells (eb (i + 1)).1 (eb (i + 1)).2 (0, 0))) ∧
      ∀ i j, 1 ≤ i → i ≤ ns.length → 1 ≤ j → j ≤ ns.length → er i = er j → i = j := by
  obtain ⟨ps, hv, hnd, hrows⟩ := h
  obtain ⟨adz, h1, h2, h3⟩ := sents hi hrow hp he hft hfo hs hc hcs ns ps hv hg fun b off hm => (hrows b off hm).2
  have hnd2 := h3.nodup hnd
  have key : ∀ i : Nat, i < ns.length → ∃ a, adz[i]? = some a := fun i hi => ⟨_, List.getElem?_eq_getElem (by omega)⟩
  have hcell : ∀ (i : Nat) a, adz[i]? = some a → ∃ c : Array Value × TypeId, W.heap[a.block]? = some (.cells c.1 c.2 (0, 0)) := fun i a ha => by
    obtain ⟨c, t, hct⟩ := (hrows a.block a.off (h3.subset (List.mem_map.2 ⟨a, List.mem_of_getElem? ha, rfl⟩))).1
    exact ⟨(c, t), hct⟩
  classical
  refine ⟨fun k => adz.getD (k - 1) ⟨0, 0, none⟩, fun k => if hx : ∃ c : Array Value × TypeId, W.heap[(adz.getD (k - 1) ⟨0, 0, none⟩).block]? = some (.cells c.1 c.2 (0, 0)) then hx.choose else (#[], 0), fun i x hx => ?_, fun i j hi1 hi2 hj1 hj2 he => ?_⟩
  · obtain ⟨a, ha⟩ := key i (List.getElem?_eq_some_iff.1 hx).1
    have e : adz.getD (i + 1 - 1) ⟨0, 0, none⟩ = a := by simp [List.getD_eq_getElem?_getD, ha]
    have hh := hcell i a ha
    simp only [e]
    refine ⟨(h2 i x a hx ha).1, ?_⟩
    rw [dif_pos hh]
    exact hh.choose_spec
  · obtain ⟨a, ha⟩ := key (i - 1) (by omega)
    obtain ⟨b, hb⟩ := key (j - 1) (by omega)
    simp only [List.getD_eq_getElem?_getD, ha, hb, Option.getD_some] at he
    subst he
    have e1 : (adz.map fun a => MemPlace.cell a.block a.off)[i - 1]? = some (.cell a.block a.off) := by simp [ha]
    have e2 : (adz.map fun a => MemPlace.cell a.block a.off)[j - 1]? = some (.cell a.block a.off) := by simp [hb]
    have := (List.getElem?_inj (List.getElem?_eq_some_iff.1 e1).1 hnd2).1 (e1.trans e2.symm)
    omega
theorem trodAll_again (hl : laidOutB P = true) {W W' : World} {sp : Nat → Bool} (hb : Below W.heap.size W W') : ∀ {ts : List TypeId} {vs : List Value} {ds : List (DataW H)} {ps : List MemPlace},
    (∀ t ∈ ts, P.readableRec t = true ∧ t < P.types.size) → DataW.TrodAll enc P W 0 (fun _ => true) true ts vs ds ps → (∀ x ∈ ps, x.block < W.heap.size) → (∀ x ∈ ps, sp x.block = true) → DataW.TrodAll enc P W' 0 sp true ts vs ds ps
  | [], vs, ds, ps, _, h, _, _ => by
    obtain ⟨rfl, rfl, rfl⟩ := trodAll_nil h
    exact trodAll_mk0
  | t :: ts, vs, ds, ps, ht, h, hlt, hsp => by
    obtain ⟨v, vs', d, ds', p, q, rfl, rfl, rfl, h0, h1⟩ := trodAll_cons h
    obtain ⟨hr, hrow⟩ := ht t (List.mem_cons_self ..)
    refine trodAll_cons_mk (WideElems.Trod_stays hl hr hrow h0 (fun x hx => hb.same (hlt x (List.mem_append_left _ hx))) fun x hx => hsp x (List.mem_append_left _ hx)) ?_
    exact trodAll_again hl hb (fun t ht' => ht t (List.mem_cons_of_mem _ ht')) h1 (fun x hx => hlt x (List.mem_append_right _ hx)) fun x hx => hsp x (List.mem_append_right _ hx)
theorem law_post {f : Func} {s : ChangeSpec} {apart fresh handsOn again : Bool} {W W' : World} {args : Array Value} {ds gs : List (DataW H)} {before : List MemPlace} {tb : TypeId}
    (hl : laidOutB P = true) (hts : f.params.toList.all (fun t => P.readableRec t && Nat.blt t P.types.size) = true) (hb4 : P.underlying tb = some .bool) (hrt : f.resultTypes = #[tb]) (hvs : s.vars = [])
    (hW : DataW.Whole enc P f.params.toList s.vars apart W args.toList ds gs before) (hfn : ∀ gs, gs = [] → s.fn H (ds ++ gs) = { results := [.lit (.bool true)], args := ds })
    (hb : Below W.heap.size W W') : s.post enc P f apart fresh handsOn again W args (.bool true) W' := by
  have hlt : ∀ x ∈ before, x.block < W.heap.size := fun x hx => hW.lt x hx
  have hold : ∀ x ∈ before, (fun b => decide (b < W.heap.size)) x.block = true := fun x hx => by simpa using hlt x hx
  have hW' := hW
  obtain ⟨p, q, hA, hV, hpq, hz, hn⟩ := hW'
  rw [hvs] at hV
  obtain ⟨rfl, rfl⟩ := trodVars_none hV
  rw [List.append_nil] at hpq
  subst hpq
  have hfn := hfn [] rfl
  have htt : ∀ t ∈ f.params.toList, P.readableRec t = true ∧ t < P.types.size := fun t ht => by
    have := List.all_eq_true.1 hts t ht
    simp only [Bool.and_eq_true] at this
    exact ⟨this.1, Nat.lt_of_succ_le (Nat.le_of_ble_eq_true this.2)⟩
  have hres : ∀ (b : Nat) (sp : Nat → Bool) (hd : Bool), DataW.TrodAll enc P W' b sp hd f.resultTypes.toList ((Value.bool true).resultList f.resultTypes.size) (s.fn H (ds ++ [])).results [] := fun b sp hd => by
    rw [hfn, hrt]
    exact trodAll_mk1 ⟨1, by simp [DataW.trod, Value.cells, hb4]⟩
  have hargs : ∀ sp : Nat → Bool, (∀ x ∈ before, sp x.block = true) → DataW.TrodAll enc P W' 0 sp true f.params.toList args.toList (s.fn H (ds ++ [])).args before := fun sp hsp => by
    rw [hfn]
    exact trodAll_again hl hb htt hA hlt hsp
  have hvars : ∀ sp : Nat → Bool, DataW.TrodVars enc P W' sp s.vars (s.fn H (ds ++ [])).vars [] := fun sp => by
    rw [hvs, hfn]
    rfl
  refine ⟨ds, [], before, [], before, [], hW, hres _ _ _, hargs _ hold, hvars _, World.keptBut_mono (fun x hx => ⟨hx, .inr (.inl hx)⟩) (hb.frame (· ∈ before)), fun _ => ?_⟩
  refine ⟨?_, _, _, ([] ++ before) ++ [], ⟨[] ++ before, [], trodAll_append (hargs _ (fun _ _ => rfl)) (hres _ _ _), hvars _, rfl, ?_, ?_⟩, ?_⟩
  · intro j t r hj hv
    rw [hrt] at hj hv
    match j, hj, hv with
    | 0, hj, hv =>
      simp [Value.resultList] at hj hv
      subst hj; subst hv
      simp [Value.okWide, hb4, Cell.okWide, Cell.ok]
    | j + 1, hj, hv => simp at hj
  · intro b off hp
    have hin : MemPlace.cell b off ∈ before := by simpa using hp
    rw [hb.frozen (hlt _ hin)]
    exact hz b off hin
  · intro ha
    simpa using hn ha
  · intro x hx _
    simpa using hx
end
end Go.Sx
end
