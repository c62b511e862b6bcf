/- Part 9 of the texts of a claim: WLaw WCodes Tx9. -/
import Derived.Stop.LaidErr
import Derived.Below
import Derived.Carry
import Derived.ChangeSame
import Derived.OpenShut
import Derived.ChangeSlices
import Derived.Test.YtonhcoeneahpaaaDoorTa8
section
namespace Go.Proofs.YtonhcoeneahpaaaDoor
open Go Go.Sx
theorem enc4_length (n : Int) : (enc4 n).length = 4 := rfl
theorem dec_enc {m : MsgT} (h : Go.Sx.OkMsg m) (hl : (encMsg m).length ≤ 5996) : decodeE (encMsg m ++ enc4 (sumN (encMsg m))) = (m, 0) := by
  have e : (encMsg m ++ enc4 (sumN (encMsg m))).length - 4 = (encMsg m).length := by
    rw [List.length_append, enc4_length]
    omega
  have e1 : (encMsg m ++ enc4 (sumN (encMsg m))).take (encMsg m).length = encMsg m := List.take_left' rfl
  have e2 : (encMsg m ++ enc4 (sumN (encMsg m))).drop (encMsg m).length = enc4 (sumN (encMsg m)) := List.drop_left' rfl
  rw [decodeE, if_neg (by rw [List.length_append, enc4_length]; omega), e, e1, e2, if_neg (fun h => h rfl), parse_enc h]
theorem encDot_length (d : DotT) : (encDot d).length = 24 := rfl
theorem flatDot (l : List DotT) : (l.flatMap encDot).length = 24 * l.length := by
  induction l with
  | nil => rfl
  | cons x l ih =>
    rw [List.flatMap_cons, List.length_append, ih, encDot_length, List.length_cons]
    omega
theorem encOp_len (o : OpT) : (encOp o).length = 56 + o.key.size + o.text.size + 24 * o.dots.length := by
  rw [encOp_head, List.length_append, flatDot]
  simp only [headO, List.length_append, flat8, encF_length, encT_length, List.length_cons, List.length_nil]
  omega
theorem flat_le {α : Type} {f : α → List UInt8} {k : Nat} : ∀ {l : List α}, (∀ x ∈ l, (f x).length ≤ k) → (l.flatMap f).length ≤ l.length * k
  | [], _ => by simp
  | x :: l, h => by
    have := flat_le (l := l) fun y hy => h y (List.mem_cons_of_mem _ hy)
    have h1 := h x (List.mem_cons_self ..)
    rw [List.flatMap_cons, List.length_append, List.length_cons, Nat.succ_mul]
    omega
theorem heavy_bounds {c : ComT} (h : heavyC c = 0) : c.when.length ≤ 20 ∧ c.ops.length ≤ 20 ∧ ∀ o ∈ c.ops, o.key.size ≤ 60 ∧ o.text.size ≤ 200 ∧ o.dots.length ≤ 70 := by
  unfold heavyC at h
  split at h
  · cases h
  rename_i h1
  split at h
  · cases h
  rename_i h2
  refine ⟨by omega, by omega, fun o ho => ?_⟩
  rw [Bool.not_eq_true, List.any_eq_false] at h2
  have := h2 o ho
  simp [heavyOp] at this
  omega
theorem encMsg_len (m : MsgT) : (encMsg m).length = 72 + 8 * m.c.when.length + (m.c.ops.flatMap encOp).length := by
  rw [encMsg_head, List.length_append]
  simp only [headM, List.length_append, flat8, encF_length, List.length_cons, List.length_nil]
  omega
theorem heavy_enc {m : MsgT} (h : heavyC m.c = 0) : (encMsg m).length ≤ 90000 := by
  obtain ⟨h1, h2, h3⟩ := heavy_bounds h
  have h4 : (m.c.ops.flatMap encOp).length ≤ m.c.ops.length * 2000 := flat_le fun o ho => by
    have := h3 o ho
    rw [encOp_len]
    omega
  have h5 : m.c.ops.length * 2000 ≤ 20 * 2000 := Nat.mul_le_mul_right _ h2
  rw [encMsg_len]
  omega
theorem ok_zero : Go.Sx.OkMsg zeroM := by
  have h0 : InR 0 := ⟨by decide, by decide⟩
  exact ⟨h0, h0, h0, h0, h0, ⟨by decide, by simp [zeroM]⟩, h0, by decide, by simp [zeroM]⟩
set_option maxHeartbeats 4000000 in
theorem codedW {w0 : World} {S : Nat → Prop} {er : Nat → Addr} {eb : Nat → Array Value × TypeId} {k : Nat} {v : Value} (hC : Rep w0 S .nilIface (dC er eb)) (hI : Inj er) (hk : k ≤ 12) (hv : ErrIs 122 er k v) :
    Calls Tryd.prog 10 #[v, .int .i64 k] w0 fun e w' => Ret [] w0 S w' e (.bool true) [] [] := by
  refine ep10 (args := [v, .int .i64 k]) (G := [(_, dC er eb)]) (by kernel_rfl) (.cons hC (.nil _ _)) ?_
  refine J_seq ?_
  refine Za [.rd 0 [] 0 0] [] [(4, .val (.bool false))] ?_
  refine J_seq ?_
  refine jT [(0, true), (1, false), (2, true), (3, true), (4, true), (5, true), (6, true)] [] ?_
  refine Ya (id := 1) (rest := [(1, false), (2, true), (3, true), (4, true), (5, true), (6, true)]) [.rd 0 [] 0 0] [0] [(8, .val (v))] ?_
  refine Yc 25 #[v] (some 9) fun w S hG => ?_
  refine (codeErr (hG.at 0 rfl) hI hk hv).mono ?_
  rintro e1 w1 hR
  refine ⟨_, _, _, hR, ?_⟩
  try simp only [aQ]
  refine Ya (id := 1) (rest := []) (Rds 2 7) [9, 8] [(5, .val (.int .i64 (↑k : Int))), (6, .val (.int .i64 (-1)))] ?_
  refine JR_end ?_
  refine J_seq ?_
  refine Zp ([.rd 0 [] 0 0, .rd 1 [] 0 0, .rd 2 [] 0 6] ++ Rds 3 8) [5, 6, 1] [(4, .val (.bool true))] [((↑k : Int) == (↑k : Int)) = true] ⟨by simp, trivial⟩ ?_
  refine Yr [[]] (.bool true) fun a w s => ?_
  exact s.ret (by simp) [] [] rfl rfl
set_option maxHeartbeats 4000000 in
theorem backWire {w0 : World} {S : Nat → Prop} {m : MsgT} {v1 v2 : Value} (h1 : v1.oneCell' = true) (h2 : v2.oneCell' = true) : Calls Tryd.prog 13 #[.agg #[.int .i64 m.fm, .int .i64 m.to, .int .i64 m.shard, .int .i64 m.seq, .int .i64 m.time, .bool m.beat, v1, .int .i64 m.c.place, v2]] w0 fun e w' =>
    Ret [] w0 S w' e (.agg #[.int .i64 m.fm, .int .i64 m.to, .int .i64 m.shard, .int .i64 m.seq, .int .i64 m.time, .bool m.beat, v1, .int .i64 m.c.place, v2]) [] [] := by
  refine ep13 (args := [.agg #[.int .i64 m.fm, .int .i64 m.to, .int .i64 m.shard, .int .i64 m.seq, .int .i64 m.time, .bool m.beat, v1, .int .i64 m.c.place, v2]]) (S := S) (G := []) (by kernel_rfl) (.nil _ _) ?_
  refine J_seq ?_
  refine Zm [.wr 0 [] 0, .wr 1 [] 0] [] [0] (fun nu1 => [(1, .val (.pointer (some (⟨nu1 0, 0, none⟩)))), (2, .val (.pointer (some (⟨nu1 1, 0, none⟩))))]) (fun nu1 => [(nu1 0, .cells #[.int .i64 m.fm, .int .i64 m.to, .int .i64 m.shard, .int .i64 m.seq, .int .i64 m.time, .bool m.beat, v1, .int .i64 m.c.place, v2] 34 (0, 0)), (nu1 1, .cells #[.int .i64 0, .int .i64 0, .int .i64 0, .int .i64 0, .int .i64 0, .bool false, .slice none 0 0, .int .i64 0, .slice none 0 0] 27 (0, 0))]) (fun nu1 => ?_)
  refine J_seq ?_
  refine Zn [.rd 0 [] 0 0, .rd 1 [.o 0 none] 0 0, .rd 2 [] 0 0, .rd 3 [.o 0 none] 0 0, .rd 4 [] 0 0, .rd 5 [.o 0 none] 0 0, .rd 6 [] 0 0, .rd 7 [.o 0 none] 0 0, .rd 8 [] 0 0, .rd 9 [.o 0 none] 0 0, .rd 10 [] 0 0, .rd 11 [.o 0 none] 0 0, .rd 12 [] 0 0, .rd 13 [.o 0 none, .o 0 none, .o 0 none] 0 0, .rd 14 [] 0 0, .wr 15 [.o 1 none, .o 1 none, .o 1 none, .o 1 none, .o 1 none, .o 1 none, .o 1 (some (v1)), .o 1 none, .o 1 (some (v2))] 0] [(15, [1])] [1] (fun _ => []) (fun _ => [(nu1 0, .cells #[.int .i64 m.fm, .int .i64 m.to, .int .i64 m.shard, .int .i64 m.seq, .int .i64 m.time, .bool m.beat, v1, .int .i64 m.c.place, v2] 34 (0, 0)), (nu1 1, .cells #[.int .i64 m.fm, .int .i64 m.to, .int .i64 m.shard, .int .i64 m.seq, .int .i64 m.time, .bool m.beat, v1, .int .i64 m.c.place, v2] 27 (0, 0))]) (fun _ => [v1.oneCell' = true, (6 : Nat) < #[Value.int IntKind.i64 m.fm, Value.int IntKind.i64 m.to, Value.int IntKind.i64 m.shard, Value.int IntKind.i64 m.seq, Value.int IntKind.i64 m.time, Value.bool m.beat, Value.slice none (0 : Nat) (0 : Nat), Value.int IntKind.i64 (0 : Int), Value.slice none (0 : Nat) (0 : Nat)].size, v2.oneCell' = true, (8 : Nat) < #[Value.int IntKind.i64 m.fm, Value.int IntKind.i64 m.to, Value.int IntKind.i64 m.shard, Value.int IntKind.i64 m.seq, Value.int IntKind.i64 m.time, Value.bool m.beat, v1, Value.int IntKind.i64 m.c.place, Value.slice none (0 : Nat) (0 : Nat)].size]) (fun _ => ⟨h1, by simp; done, h2, by simp; done, trivial⟩) (fun _ => ?_)
  refine Yr [[.o 1 none, .o 1 none, .o 1 none, .o 1 none, .o 1 none, .o 1 none, .o 1 none, .o 1 none, .o 1 none]] (.agg #[.int .i64 m.fm, .int .i64 m.to, .int .i64 m.shard, .int .i64 m.seq, .int .i64 m.time, .bool m.beat, v1, .int .i64 m.c.place, v2]) fun a w s => ?_
  all_goals first | assumption | exact s.ret (by simp) [] [] rfl rfl
set_option maxHeartbeats 4000000 in
theorem wiredW {w0 : World} {S : Nat → Prop} {er : Nat → Addr} {eb : Nat → Array Value × TypeId} (hC : Rep w0 S .nilIface (dC er eb)) :
    Calls Tryd.prog 5 #[] w0 fun e w' => Ret [] w0 S w' e (.bool true) [] [] := by
  have hl : (encMsg zeroM).length = 72 := by rw [encMsg_len]; rfl
  refine ep5 (args := []) (G := [(_, dC er eb)]) (by kernel_rfl) (.cons hC (.nil _ _)) ?_
  refine J_seq ?_
  refine Za [.rd 0 [] 0 0] [] [(0, .val (.bool false))] ?_
  refine J_seq ?_
  refine jT [(0, true), (1, false), (2, true), (3, true), (4, true), (5, true), (6, true)] [] ?_
  refine Ya (id := 1) (rest := [(1, false), (2, true), (3, true), (4, true), (5, true), (6, true)]) [.rd 0 [] 0 0] [] [(6, .val (.agg #[.int .i64 0, .int .i64 0, .int .i64 0, .int .i64 0, .int .i64 0, .bool false, .slice none 0 0, .int .i64 0, .slice none 0 0]))] ?_
  refine Yc 7 #[.agg #[.int .i64 0, .int .i64 0, .int .i64 0, .int .i64 0, .int .i64 0, .bool false, .slice none 0 0, .int .i64 0, .slice none 0 0]] (some 7) fun w S hG => ?_
  refine (encodeW (m := zeroM) (hG.at 0 rfl) .nil .nil (by omega)).mono ?_
  rintro e1 w1 (⟨h, _⟩ | ⟨_, hR⟩)
  · omega
  refine ⟨_, _, _, hR, ?_⟩
  try simp only [aQ]
  refine Ya (id := 1) (rest := []) (Rds 2 7) [7, 6] [(1, .val (.string (ByteArray.mk (encMsg zeroM ++ enc4 (↑(sumN (encMsg zeroM)) : Int)).toArray))), (2, .val (.nilIface))] ?_
  refine JR_end ?_
  refine J_seq ?_
  refine jT [(0, true), (1, false), (2, true), (3, true), (4, true), (5, false), (6, false), (7, true)] [] ?_
  refine Ya (id := 2) (rest := [(1, false), (2, true), (3, true), (4, true), (5, false), (6, false), (7, true)]) [.rd 0 [] 0 0] [] [(11, .val (.string (ByteArray.mk (encMsg zeroM ++ enc4 (↑(sumN (encMsg zeroM)) : Int)).toArray)))] ?_
  refine Yc 11 #[.string (ByteArray.mk (encMsg zeroM ++ enc4 (↑(sumN (encMsg zeroM)) : Int)).toArray)] (some 12) fun w S hG => ?_
  have hsz : (ByteArray.mk (encMsg zeroM ++ enc4 (sumN (encMsg zeroM))).toArray).size = 76 := by
    rw [baSize, List.length_append, enc4_length, hl]
  refine (decodeW (hG.at 0 rfl) (by omega)).mono ?_
  rintro e2 w2 ⟨m, k, v, a1, n1, c1, a2, n2, c2, hd, hv, hR⟩
  have hd2 : decodeE (ByteArray.mk (encMsg zeroM ++ enc4 (sumN (encMsg zeroM))).toArray).data.toList = (zeroM, 0) := by
    have := dec_enc ok_zero (by omega)
    simpa using this
  rw [hd2] at hd
  cases hd
  obtain ⟨_, rfl⟩ | ⟨h0, _⟩ := hv
  · have e2 := (hR.gh.choose_spec.2.2.2 _ (List.mem_cons_of_mem _ (List.mem_cons_self ..))).slen
    rw [List.length_map] at e2
    subst e2
    refine ⟨_, _, _, hR, ?_⟩
    try simp only [aQ]
    refine Ym (id := 2) (rest := []) (Rds 2 5 ++ [.wr 5 [] 0, .wr 6 [.o 0 none, .o 0 none, .o 0 none, .o 0 none, .o 0 none, .o 0 none, .o 0 none, .o 0 none, .o 0 none] 0, .rd 7 [] 0 0]) [12, 11] (fun nu1 => [(3, .val (.pointer (some (⟨nu1 0, 0, none⟩)))), (4, .val (.nilIface))]) (fun nu1 => [(nu1 0, .cells #[.int .i64 0, .int .i64 0, .int .i64 0, .int .i64 0, .int .i64 0, .bool false, .slice a1 n1 c1, .int .i64 0, .slice a2 0 c2] 34 (0, 0))]) [] (fun nu1 => ?_)
    refine JR_end ?_
    refine J_seq ?_
    refine Za (Rds 0 13 ++ [.rd 13 [.o 0 none] 0 0] ++ Rds 14 19 ++ [.rd 19 [.o 0 none] 0 0] ++ Rds 20 24) [3, 4, 1, 2] [(0, .val (.bool true))] ?_
    refine Yr [[]] (.bool true) fun a w s => ?_
    exact s.ret (by simp) [] [] rfl rfl
  · exact absurd rfl h0
end Go.Proofs.YtonhcoeneahpaaaDoor
end
section
namespace Go.Proofs.YtonhcoeneahpaaaDoor
open Go Go.Sx
set_option maxHeartbeats 4000000 in
theorem wireCodes {w0 : World} {S0 : Nat → Prop} {er : Nat → Addr} {eb : Nat → Array Value × TypeId} {m : MsgT} {a1 a2 : Option Addr} {n1 c1 n2 c2 : Nat} (hC : Rep w0 S0 .nilIface (dC er eb)) (hI : Inj er) (hok : Go.Sx.OkMsg m) (h1 : Rep w0 S0 (.slice a1 n1 c1) (dInts m.c.when)) (h2 : Rep w0 S0 (.slice a2 n2 c2) (.sl 7 (m.c.ops.map eOp))) :
    Calls Tryd.prog 3 #[.agg #[.int .i64 m.fm, .int .i64 m.to, .int .i64 m.shard, .int .i64 m.seq, .int .i64 m.time, .bool m.beat, .slice a1 n1 c1, .int .i64 m.c.place, .slice a2 n2 c2]] w0 fun e w' => Ret [] w0 S0 w' e (.bool true) [] [] := by
  refine ep3 (args := [.agg #[.int .i64 m.fm, .int .i64 m.to, .int .i64 m.shard, .int .i64 m.seq, .int .i64 m.time, .bool m.beat, .slice a1 n1 c1, .int .i64 m.c.place, .slice a2 n2 c2]]) (G := [(_, dC er eb), (_, dInts m.c.when), (_, .sl 7 (m.c.ops.map eOp))]) (by kernel_rfl) (.cons hC (.cons h1 (.cons h2 (.nil _ _)))) ?_
  refine J_seq ?_
  refine Zm [.wr 0 [] 0, .rd 1 [] 0 0] [] [0] (fun nu1 => [(1, .val (.pointer (some (⟨nu1 0, 0, none⟩)))), (2, .val (.bool false))]) (fun nu1 => [(nu1 0, .cells #[.int .i64 m.fm, .int .i64 m.to, .int .i64 m.shard, .int .i64 m.seq, .int .i64 m.time, .bool m.beat, .slice a1 n1 c1, .int .i64 m.c.place, .slice a2 n2 c2] 27 (0, 0))]) (fun nu1 => ?_)
  refine J_seq ?_
  refine jT [(0, false), (1, true)] [] ?_
  refine Yc 5 #[] (some 9) fun w S hG => ?_
  refine (wiredW (hG.at 0 rfl)).mono ?_
  rintro e1 w1 hR
  refine ⟨_, _, _, hR, ?_⟩
  try simp only [aQ]
  refine Ya (id := 1) (rest := []) [.rd 1 [] 0 0] [9] [(3, .val (.bool true))] ?_
  refine JR_end ?_
  refine J_seq ?_
  refine J_seq ?_
  refine jT [(0, true), (1, true), (2, true), (3, true), (4, true), (5, false), (6, true), (7, true)] [] ?_
  refine Ya (id := 2) (rest := [(5, false), (6, true), (7, true)]) (Rds 0 4 ++ [.rd 4 [.o 0 none, .o 0 none, .o 0 none] 0 0]) [] [(12, .val (.bool false)), (14, .val (.agg #[.slice a1 n1 c1, .int .i64 m.c.place, .slice a2 n2 c2]))] ?_
  refine Yc 6 #[.agg #[.slice a1 n1 c1, .int .i64 m.c.place, .slice a2 n2 c2]] (some 15) fun w S hG => ?_
  refine (heavyCommit (c := m.c) (hG.at 1 rfl) (hG.at 2 rfl)).mono ?_
  rintro e2 w2 hR
  refine ⟨_, _, _, hR, ?_⟩
  try simp only [aQ]
  refine Ya (id := 2) (rest := []) [.rd 6 [] 0 0, .rd 7 [] 0 0] [15, 12, 14] [(17, .val (.bool (decide (heavyC m.c > 0))))] ?_
  refine JR_end ?_
  refine J_cond (t := decide (heavyC m.c > 0)) (by kernel_rfl) (by kernel_rfl) (fun hh => ?_) (fun hh => ?_)
  · refine J_seq ?_
    refine Za [.rd 0 [] 0 0, .rd 1 [] 0 0] [17, 3] [(2, .val (.bool true))] ?_
    refine Yr [[]] (.bool true) fun a w s => ?_
    exact s.ret (by simp) [] [] rfl rfl
  · have h0 : heavyC m.c = 0 := by
      have : heavyC m.c = 0 ∨ heavyC m.c = 1 := by
        unfold heavyC
        split
        · exact .inr rfl
        · split
          · exact .inr rfl
          · exact .inl rfl
      simp at hh
      omega
    obtain ⟨b1, b2, b3⟩ := heavy_bounds h0
    have hen := heavy_enc h0
    refine J_skip ?_
    refine J_seq ?_
    refine jT [(0, true), (1, false), (2, false), (3, true), (4, true), (5, true), (6, true), (7, true)] [] ?_
    refine Ya (id := 4) (rest := [(1, false), (2, false), (3, true), (4, true), (5, true), (6, true), (7, true)]) [.rd 0 [.o 0 none, .o 0 none, .o 0 none, .o 0 none, .o 0 none, .o 0 none, .o 0 none, .o 0 none, .o 0 none] 0 0] [17, 3] [(20, .val (.agg #[.int .i64 m.fm, .int .i64 m.to, .int .i64 m.shard, .int .i64 m.seq, .int .i64 m.time, .bool m.beat, .slice a1 n1 c1, .int .i64 m.c.place, .slice a2 n2 c2]))] ?_
    refine Yc 8 #[.agg #[.int .i64 m.fm, .int .i64 m.to, .int .i64 m.shard, .int .i64 m.seq, .int .i64 m.time, .bool m.beat, .slice a1 n1 c1, .int .i64 m.c.place, .slice a2 n2 c2]] (some 21) fun w S hG => ?_
    refine (wireOf (m := m) (hG.at 1 rfl) (hG.at 2 rfl) (by omega) (by omega) (fun o ho => by have := b3 o ho; omega)).mono ?_
    rintro e3 w3 ⟨u1, k1, v1, u2, k2, v2, hR⟩
    refine ⟨_, _, _, hR, ?_⟩
    try simp only [aQ]
    refine Yc 7 #[.agg #[.int .i64 m.fm, .int .i64 m.to, .int .i64 m.shard, .int .i64 m.seq, .int .i64 m.time, .bool m.beat, .slice u1 k1 v1, .int .i64 m.c.place, .slice u2 k2 v2]] (some 22) fun w S hG => ?_
    refine (encodeW (m := m) (hG.at 0 rfl) (hG.at 3 rfl) (hG.at 4 rfl) hen).mono ?_
    rintro e4 w4 (⟨hbig, hR⟩ | ⟨hbig, hR⟩)
    · refine ⟨_, _, _, hR, ?_⟩
      try simp only [aQ]
      refine Ya (id := 4) (rest := []) (Rds 3 8) [22, 21, 20] [(4, .val (.string (ByteArray.mk #[]))), (5, .val (.iface 122 (.pointer (some (er 7)))))] ?_
      refine JR_end ?_
      refine J_seq ?_
      refine jT [(0, true), (1, false), (2, true), (3, true), (4, true), (5, true), (6, true)] [] ?_
      refine Ya (id := 5) (rest := [(1, false), (2, true), (3, true), (4, true), (5, true), (6, true)]) [.rd 0 [.o 0 none, .o 0 none, .o 0 none, .o 0 none, .o 0 none, .o 0 none, .o 0 none, .o 0 none, .o 0 none] 0 0] [] [(26, .val (.agg #[.int .i64 m.fm, .int .i64 m.to, .int .i64 m.shard, .int .i64 m.seq, .int .i64 m.time, .bool m.beat, .slice a1 n1 c1, .int .i64 m.c.place, .slice a2 n2 c2]))] ?_
      refine Yc 9 #[.agg #[.int .i64 m.fm, .int .i64 m.to, .int .i64 m.shard, .int .i64 m.seq, .int .i64 m.time, .bool m.beat, .slice a1 n1 c1, .int .i64 m.c.place, .slice a2 n2 c2]] (some 27) fun w S hG => ?_
      refine (wireRW (m := m) (hG.at 1 rfl) (hG.at 2 rfl) hen).mono ?_
      rintro e5 w5 (⟨hbig2, hR⟩ | ⟨hbig2, hR⟩)
      · refine ⟨_, _, _, hR, ?_⟩
        try simp only [aQ]
        refine Ya (id := 5) (rest := []) (Rds 2 7) [27, 26] [(6, .val (.string (ByteArray.mk #[]))), (7, .val (.int .i64 7))] ?_
        refine JR_end ?_
        refine J_seq ?_
        refine J_seq ?_
        refine Za [.rd 0 [] 0 0, .rd 1 [] 0 0] [] [(31, .val (.bool true))] ?_
        refine J_cond_t (by kernel_rfl) (by kernel_rfl) ?_
        refine J_seq ?_
        refine jT [(0, true), (1, true), (2, false), (3, true), (4, true), (5, true), (6, true), (7, true)] [] ?_
        refine Ya (id := 7) (rest := [(2, false), (3, true), (4, true), (5, true), (6, true), (7, true)]) [.rd 0 [] 0 0, .rd 1 [] 0 0] [31, 7] [(32, .val (.iface 122 (.pointer (some (er 7))))), (33, .val (.int .i64 7))] ?_
        refine Yc 10 #[.iface 122 (.pointer (some (er 7))), .int .i64 7] (some 34) fun w S hG => ?_
        refine (codedW (k := 7) (hG.at 0 rfl) hI (by decide) (.inr ⟨by decide, rfl⟩)).mono ?_
        rintro e6 w6 hR
        refine ⟨_, _, _, hR, ?_⟩
        try simp only [aQ]
        refine Ya (id := 7) (rest := []) (Rds 3 8) [34, 32, 33] [(2, .val (.bool true))] ?_
        refine JR_end ?_
        refine Yr [[]] (.bool true) fun a w s => ?_
        exact s.ret (by simp) [] [] rfl rfl
      · omega
    · refine ⟨_, _, _, hR, ?_⟩
      try simp only [aQ]
      refine Ya (id := 4) (rest := []) (Rds 3 8) [22, 21, 20] [(4, .val (.string (ByteArray.mk (encMsg m ++ enc4 (↑(sumN (encMsg m)) : Int)).toArray))), (5, .val (.nilIface))] ?_
      refine JR_end ?_
      refine J_seq ?_
      refine jT [(0, true), (1, false), (2, true), (3, true), (4, true), (5, true), (6, true)] [] ?_
      refine Ya (id := 5) (rest := [(1, false), (2, true), (3, true), (4, true), (5, true), (6, true)]) [.rd 0 [.o 0 none, .o 0 none, .o 0 none, .o 0 none, .o 0 none, .o 0 none, .o 0 none, .o 0 none, .o 0 none] 0 0] [] [(26, .val (.agg #[.int .i64 m.fm, .int .i64 m.to, .int .i64 m.shard, .int .i64 m.seq, .int .i64 m.time, .bool m.beat, .slice a1 n1 c1, .int .i64 m.c.place, .slice a2 n2 c2]))] ?_
      refine Yc 9 #[.agg #[.int .i64 m.fm, .int .i64 m.to, .int .i64 m.shard, .int .i64 m.seq, .int .i64 m.time, .bool m.beat, .slice a1 n1 c1, .int .i64 m.c.place, .slice a2 n2 c2]] (some 27) fun w S hG => ?_
      refine (wireRW (m := m) (hG.at 1 rfl) (hG.at 2 rfl) hen).mono ?_
      rintro e5 w5 (⟨hbig2, hR⟩ | ⟨hbig2, hR⟩)
      · omega
      refine ⟨_, _, _, hR, ?_⟩
      try simp only [aQ]
      refine Ya (id := 5) (rest := []) (Rds 2 7) [27, 26] [(6, .val (.string (ByteArray.mk (encMsg m ++ enc4 (↑(sumN (encMsg m)) : Int)).toArray))), (7, .val (.int .i64 0))] ?_
      refine JR_end ?_
      refine J_seq ?_
      refine J_seq ?_
      refine Za [.rd 0 [] 0 0, .rd 1 [] 0 0] [] [(31, .val (.bool false))] ?_
      refine J_cond_f (by kernel_rfl) (by kernel_rfl) ?_
      refine J_skip ?_
      refine J_seq ?_
      refine J_seq ?_
      refine Zp (Rds 0 5 ++ [.rd 5 [] 0 7, .rd 6 [] 0 0]) [31, 6, 7] [(45, .val (.bool false))] [(!(ByteArray.mk (encMsg m ++ enc4 (↑(sumN (encMsg m)) : Int)).toArray).toList == (ByteArray.mk (encMsg m ++ enc4 (↑(sumN (encMsg m)) : Int)).toArray).toList) = false] ⟨by simp, trivial⟩ ?_
      refine J_cond_f (by kernel_rfl) (by kernel_rfl) ?_
      refine J_skip ?_
      refine J_seq ?_
      refine jT [(0, true), (1, false), (2, true), (3, true), (4, true), (5, false), (6, false), (7, true)] [] ?_
      refine Ya (id := 10) (rest := [(1, false), (2, true), (3, true), (4, true), (5, false), (6, false), (7, true)]) [.rd 0 [] 0 0] [45, 4] [(47, .val (.string (ByteArray.mk (encMsg m ++ enc4 (↑(sumN (encMsg m)) : Int)).toArray)))] ?_
      refine Yc 11 #[.string (ByteArray.mk (encMsg m ++ enc4 (↑(sumN (encMsg m)) : Int)).toArray)] (some 48) fun w S hG => ?_
      have hsz : (ByteArray.mk (encMsg m ++ enc4 (sumN (encMsg m))).toArray).size ≤ 90000 := by
        rw [baSize, List.length_append, enc4_length]
        omega
      refine (decodeW (hG.at 0 rfl) hsz).mono ?_
      rintro e6 w6 ⟨m', k, v, x1, y1, z1, x2, y2, z2, hd, hv, hR⟩
      have hd2 : decodeE (ByteArray.mk (encMsg m ++ enc4 (sumN (encMsg m))).toArray).data.toList = (m, 0) := by
        have := dec_enc hok hbig
        simpa using this
      rw [hd2] at hd
      cases hd
      obtain ⟨_, rfl⟩ | ⟨h0, _⟩ := hv
      · refine ⟨_, _, _, hR, ?_⟩
        try simp only [aQ]
        refine Ym (id := 10) (rest := []) (Rds 2 5 ++ [.wr 5 [] 0, .wr 6 [.o 1 none, .o 1 none, .o 1 none, .o 1 none, .o 1 none, .o 1 none, .o 1 none, .o 1 none, .o 1 none] 0, .rd 7 [] 0 0]) [48, 47] (fun nu2 => [(8, .val (.pointer (some (⟨nu2 0, 0, none⟩))))]) (fun nu2 => [(nu1 0, .cells #[.int .i64 m.fm, .int .i64 m.to, .int .i64 m.shard, .int .i64 m.seq, .int .i64 m.time, .bool m.beat, .slice a1 n1 c1, .int .i64 m.c.place, .slice a2 n2 c2] 27 (0, 0)), (nu2 0, .cells #[.int .i64 m.fm, .int .i64 m.to, .int .i64 m.shard, .int .i64 m.seq, .int .i64 m.time, .bool m.beat, .slice x1 y1 z1, .int .i64 m.c.place, .slice x2 y2 z2] 34 (0, 0))]) [] (fun nu2 => ?_)
        refine JR_end ?_
        refine J_seq ?_
        refine jT [(0, true), (1, true), (2, true), (3, true), (5, true), (4, false), (6, false), (7, true), (8, true)] [] ?_
        refine Ya (id := 11) (rest := [(4, false), (6, false), (7, true), (8, true)]) (Rds 0 3 ++ [.rd 3 [.o 1 none, .o 1 none, .o 1 none, .o 1 none, .o 1 none, .o 1 none, .o 1 none, .o 1 none, .o 1 none] 0 0, .rd 5 [.o 0 none, .o 0 none, .o 0 none, .o 0 none, .o 0 none, .o 0 none, .o 0 none, .o 0 none, .o 0 none] 0 0]) [8, 5, 1] [(53, .val (.bool true)), (54, .val (.agg #[.int .i64 m.fm, .int .i64 m.to, .int .i64 m.shard, .int .i64 m.seq, .int .i64 m.time, .bool m.beat, .slice x1 y1 z1, .int .i64 m.c.place, .slice x2 y2 z2])), (56, .val (.agg #[.int .i64 m.fm, .int .i64 m.to, .int .i64 m.shard, .int .i64 m.seq, .int .i64 m.time, .bool m.beat, .slice a1 n1 c1, .int .i64 m.c.place, .slice a2 n2 c2]))] ?_
        refine Yc 13 #[.agg #[.int .i64 m.fm, .int .i64 m.to, .int .i64 m.shard, .int .i64 m.seq, .int .i64 m.time, .bool m.beat, .slice x1 y1 z1, .int .i64 m.c.place, .slice x2 y2 z2]] (some 55) fun w S hG => ?_
        refine (backWire (S := S) (m := m) rfl rfl).mono ?_
        rintro e7 w7 hR
        refine ⟨_, _, _, hR, ?_⟩
        try simp only [aQ]
        refine Yc 12 #[.agg #[.int .i64 m.fm, .int .i64 m.to, .int .i64 m.shard, .int .i64 m.seq, .int .i64 m.time, .bool m.beat, .slice x1 y1 z1, .int .i64 m.c.place, .slice x2 y2 z2], .agg #[.int .i64 m.fm, .int .i64 m.to, .int .i64 m.shard, .int .i64 m.seq, .int .i64 m.time, .bool m.beat, .slice a1 n1 c1, .int .i64 m.c.place, .slice a2 n2 c2]] (some 57) fun w S hG => ?_
        refine (sameMessage_eq (m := m) (hG.at 5 rfl) (hG.at 6 rfl) (hG.at 1 rfl) (hG.at 2 rfl) (by omega) (by omega) (fun o ho => by have := b3 o ho; omega)).mono ?_
        rintro e8 w8 hR
        refine ⟨_, _, _, hR, ?_⟩
        try simp only [aQ]
        refine Ya (id := 11) (rest := []) [.rd 7 [] 0 0, .rd 8 [] 0 0] [57, 55, 53, 54, 56] [(2, .val (.bool true))] ?_
        refine JR_end ?_
        refine Yr [[]] (.bool true) fun a w s => ?_
        exact s.ret (by simp) [] [] rfl rfl
      · exact absurd rfl h0
end Go.Proofs.YtonhcoeneahpaaaDoor
end
section
namespace Go.Sx
open Go Go.RowKit Go.ChangeShapes Go.WideShapes
theorem Fr.below {w w' : World} (h : Fr [] w w') : Below w.heap.size w w' := ⟨h.os, h.tape, h.output, h.size, fun b hb => h.block b hb (by simp)⟩
theorem cell_blk {w : World} {a : Addr} {v : Value} (h : w.cell? a = some v) : ∃ cs ty fz, w.heap[a.block]? = some (.cells cs ty fz) ∧ a.spot = none ∧ cs[a.off]? = some v := by
  unfold World.cell? at h
  split at h
  · rename_i cs ty fz hb
    split at h
    · cases h
    · rename_i hs
      exact ⟨cs, ty, fz, hb, by simpa using hs, h⟩
  · cases h
section
variable {H : Type} {enc : TypeId × Value → H} {P : Program}
theorem rep_var {W : World} {n : String} {g : Nat} {x : Value} (hg : P.globalNamed n = some g) (h : W.var? P n = some #[x]) (hx : x.oneCell' = true) : Rep W (fun _ => True) (.pointer (some ⟨g, 0, none⟩)) (.ptr [.v x]) := by
  unfold World.var? at h
  simp only [hg, Option.bind_some] at h
  split at h
  · rename_i cs ty fz hb
    cases h
    refine .ptr (fun _ => x) hb trivial (fun j hj => ?_) (fun j d hj => ?_)
    · obtain rfl : j = 0 := by simpa using hj
      rfl
    · match j, hj with
      | 0, hj =>
        simp only [List.getElem?_cons_zero, Option.some.injEq] at hj
        subst hj
        exact .v hx
      | j + 1, hj => simp at hj
  · cases h
theorem sents {W : World} {ti tp te ts : TypeId} {ms : Array (String × TypeId)} {nm : String} {f : Field} (hi : P.underlying ti = some (.interface ms)) (hrow : ∀ u, P.typeName? 3 u = some nm → u = tp)
    (hp : P.underlying tp = some (.pointer te)) (he : P.underlying te = some (.struct #[f])) (hft : f.type = ts) (hfo : f.offset = 0) (hs : P.underlying ts = some .string) (hc : P.cellsOf te = 1) (hcs : P.cellsOf ts = 1) :
    ∀ (ns : List (String × List UInt8)) (ps : List MemPlace), DataW.LaidVars P W (ns.map fun x => (x.1, DataW.iface nm (.ptr (.agg [.lit (.string x.2)])))) ps →
      ns.all (fun x => match P.globalNamed x.1 with
        | some g => (P.globals[g]?).map (·.type) == some ti
        | none => false) = true →
      (∀ b off, MemPlace.cell b off ∈ ps → ∀ u v, W.cell? ⟨b, off, none⟩ = some (.iface u v) → Value.okWide P W .any 0 u v) →
      ∃ adz : List Addr, adz.length = ns.length ∧ (∀ (i : Nat) x a, ns[i]? = some x → adz[i]? = some a → W.var? P x.1 = some #[.iface tp (.pointer (some a))] ∧ a.spot = none) ∧ (adz.map fun a => MemPlace.cell a.block a.off).Sublist ps
  | [], ps, _, _, _ => ⟨[], rfl, by simp, by simp⟩
  | (n, text) :: ns, ps, h, hg, hr => by
    rw [List.map_cons] at h
    obtain ⟨g0, t0, cs0, f0, p0, q0, hg0, ht0, hv0, hd0, hq, e0⟩ := h
    rw [List.all_cons, Bool.and_eq_true] at hg
    obtain ⟨hg1, hg2⟩ := hg
    simp only [hg0, ht0, beq_iff_eq, Option.some.injEq] at hg1
    subst hg1 e0
    obtain ⟨l0⟩ := cs0
    have ok0 : ∀ u v, l0 = [.iface u v] → Value.okWide P W .any 0 u v := fun u v e => by
      subst e
      exact hr g0 0 (by simp [MemPlace.row]) u v (by simpa using World.var?_cell hg0 hv0 0)
    obtain ⟨a0, s0, rfl, hc0, hs0, hz0, rfl⟩ := errorString_of_trod hi hrow hp he hft hfo hs hc hcs hd0 ok0
    obtain ⟨adz, h1, h2, h3⟩ := sents hi hrow hp he hft hfo hs hc hcs ns q0 hq hg2 fun b off hm => hr b off (List.mem_append_right _ hm)
    obtain ⟨_, _, _, _, hspot, _⟩ := cell_blk hc0
    refine ⟨a0 :: adz, by simp [h1], fun i x a hx ha => ?_, ?_⟩
    · cases i with
      | zero =>
        simp only [List.getElem?_cons_zero, Option.some.injEq] at hx ha
        subst hx ha
        exact ⟨hv0, hspot⟩
      | succ i =>
        simp only [List.getElem?_cons_succ] at hx ha
        exact h2 i x a hx ha
    · rw [List.map_cons, List.append_assoc]
      refine (List.Sublist.cons_cons _ h3).trans (?_ : List.Sublist _ (MemPlace.row a0 1 ++ q0)) |>.trans (List.sublist_append_right _ _)
      simp [MemPlace.row]
theorem errs_of {W : World} {ti tp te ts : TypeId} {ms : Array (String × TypeId)} {nm : String} {f : Field} (hi : P.underlying ti = some (.interface ms)) (hrow : ∀ u, P.typeName? 3 u = some nm → u = tp)
    (hp : P.underlying tp = some (.pointer te)) (he : P.underlying te = some (.struct #[f])) (hft : f.type = ts) (hfo : f.offset = 0) (hs : P.underlying ts = some .string) (hc : P.cellsOf te = 1) (hcs : P.cellsOf ts = 1)
    (ns : List (String × List UInt8)) (h : laidMet P (ns.map fun x => (x.1, DataW.iface nm (.ptr (.agg [.lit (.string x.2)])))) W)
    (hg : ns.all (fun x => match P.globalNamed x.1 with
        | some g => (P.globals[g]?).map (·.type) == some ti
        | none => false) = true) :
    ∃ (er : Nat → Addr) (eb : Nat → Array Value × TypeId), (∀ (i : Nat) x, ns[i]? = some x → W.var? P x.1 = some #[.iface tp (.pointer (some (er (i + 1))))] ∧ W.heap[(er (i + 1)).block]? = some (.cells (eb (i + 1)).1 (eb (i + 1)).2 (0, 0))) ∧
      ∀ i j, 1 ≤ i → i ≤ ns.length → 1 ≤ j → j ≤ ns.length → er i = er j → i = j := by
  obtain ⟨ps, hv, hnd, hrows⟩ := h
  obtain ⟨adz, h1, h2, h3⟩ := sents hi hrow hp he hft hfo hs hc hcs ns ps hv hg fun b off hm => (hrows b off hm).2
  have hnd2 := h3.nodup hnd
  have key : ∀ i : Nat, i < ns.length → ∃ a, adz[i]? = some a := fun i hi => ⟨_, List.getElem?_eq_getElem (by omega)⟩
  have hcell : ∀ (i : Nat) a, adz[i]? = some a → ∃ c : Array Value × TypeId, W.heap[a.block]? = some (.cells c.1 c.2 (0, 0)) := fun i a ha => by
    obtain ⟨c, t, hct⟩ := (hrows a.block a.off (h3.subset (List.mem_map.2 ⟨a, List.mem_of_getElem? ha, rfl⟩))).1
    exact ⟨(c, t), hct⟩
  classical
  refine ⟨fun k => adz.getD (k - 1) ⟨0, 0, none⟩, fun k => if hx : ∃ c : Array Value × TypeId, W.heap[(adz.getD (k - 1) ⟨0, 0, none⟩).block]? = some (.cells c.1 c.2 (0, 0)) then hx.choose else (#[], 0), fun i x hx => ?_, fun i j hi1 hi2 hj1 hj2 he => ?_⟩
  · obtain ⟨a, ha⟩ := key i (List.getElem?_eq_some_iff.1 hx).1
    have e : adz.getD (i + 1 - 1) ⟨0, 0, none⟩ = a := by simp [List.getD_eq_getElem?_getD, ha]
    have hh := hcell i a ha
    simp only [e]
    refine ⟨(h2 i x a hx ha).1, ?_⟩
    rw [dif_pos hh]
    exact hh.choose_spec
  · obtain ⟨a, ha⟩ := key (i - 1) (by omega)
    obtain ⟨b, hb⟩ := key (j - 1) (by omega)
    simp only [List.getD_eq_getElem?_getD, ha, hb, Option.getD_some] at he
    subst he
    have e1 : (adz.map fun a => MemPlace.cell a.block a.off)[i - 1]? = some (.cell a.block a.off) := by simp [ha]
    have e2 : (adz.map fun a => MemPlace.cell a.block a.off)[j - 1]? = some (.cell a.block a.off) := by simp [hb]
    have := (List.getElem?_inj (List.getElem?_eq_some_iff.1 e1).1 hnd2).1 (e1.trans e2.symm)
    omega
theorem trodAll_again (hl : laidOutB P = true) {W W' : World} {sp : Nat → Bool} (hb : Below W.heap.size W W') : ∀ {ts : List TypeId} {vs : List Value} {ds : List (DataW H)} {ps : List MemPlace},
    (∀ t ∈ ts, P.readableRec t = true ∧ t < P.types.size) → DataW.TrodAll enc P W 0 (fun _ => true) true ts vs ds ps → (∀ x ∈ ps, x.block < W.heap.size) → (∀ x ∈ ps, sp x.block = true) → DataW.TrodAll enc P W' 0 sp true ts vs ds ps
  | [], vs, ds, ps, _, h, _, _ => by
    obtain ⟨rfl, rfl, rfl⟩ := trodAll_nil h
    exact trodAll_mk0
  | t :: ts, vs, ds, ps, ht, h, hlt, hsp => by
    obtain ⟨v, vs', d, ds', p, q, rfl, rfl, rfl, h0, h1⟩ := trodAll_cons h
    obtain ⟨hr, hrow⟩ := ht t (List.mem_cons_self ..)
    refine trodAll_cons_mk (WideElems.Trod_stays hl hr hrow h0 (fun x hx => hb.same (hlt x (List.mem_append_left _ hx))) fun x hx => hsp x (List.mem_append_left _ hx)) ?_
    exact trodAll_again hl hb (fun t ht' => ht t (List.mem_cons_of_mem _ ht')) h1 (fun x hx => hlt x (List.mem_append_right _ hx)) fun x hx => hsp x (List.mem_append_right _ hx)
theorem law_post {f : Func} {s : ChangeSpec} {apart fresh handsOn again : Bool} {W W' : World} {args : Array Value} {ds gs : List (DataW H)} {before : List MemPlace} {tb : TypeId}
    (hl : laidOutB P = true) (hts : f.params.toList.all (fun t => P.readableRec t && Nat.blt t P.types.size) = true) (hb4 : P.underlying tb = some .bool) (hrt : f.resultTypes = #[tb]) (hvs : s.vars = [])
    (hW : DataW.Whole enc P f.params.toList s.vars apart W args.toList ds gs before) (hfn : ∀ gs, gs = [] → s.fn H (ds ++ gs) = { results := [.lit (.bool true)], args := ds })
    (hb : Below W.heap.size W W') : s.post enc P f apart fresh handsOn again W args (.bool true) W' := by
  have hlt : ∀ x ∈ before, x.block < W.heap.size := fun x hx => hW.lt x hx
  have hold : ∀ x ∈ before, (fun b => decide (b < W.heap.size)) x.block = true := fun x hx => by simpa using hlt x hx
  have hW' := hW
  obtain ⟨p, q, hA, hV, hpq, hz, hn⟩ := hW'
  rw [hvs] at hV
  obtain ⟨rfl, rfl⟩ := trodVars_none hV
  rw [List.append_nil] at hpq
  subst hpq
  have hfn := hfn [] rfl
  have htt : ∀ t ∈ f.params.toList, P.readableRec t = true ∧ t < P.types.size := fun t ht => by
    have := List.all_eq_true.1 hts t ht
    simp only [Bool.and_eq_true] at this
    exact ⟨this.1, Nat.lt_of_succ_le (Nat.le_of_ble_eq_true this.2)⟩
  have hres : ∀ (b : Nat) (sp : Nat → Bool) (hd : Bool), DataW.TrodAll enc P W' b sp hd f.resultTypes.toList ((Value.bool true).resultList f.resultTypes.size) (s.fn H (ds ++ [])).results [] := fun b sp hd => by
    rw [hfn, hrt]
    exact trodAll_mk1 ⟨1, by simp [DataW.trod, Value.cells, hb4]⟩
  have hargs : ∀ sp : Nat → Bool, (∀ x ∈ before, sp x.block = true) → DataW.TrodAll enc P W' 0 sp true f.params.toList args.toList (s.fn H (ds ++ [])).args before := fun sp hsp => by
    rw [hfn]
    exact trodAll_again hl hb htt hA hlt hsp
  have hvars : ∀ sp : Nat → Bool, DataW.TrodVars enc P W' sp s.vars (s.fn H (ds ++ [])).vars [] := fun sp => by
    rw [hvs, hfn]
    rfl
  refine ⟨ds, [], before, [], before, [], hW, hres _ _ _, hargs _ hold, hvars _, World.keptBut_mono (fun x hx => ⟨hx, .inr (.inl hx)⟩) (hb.frame (· ∈ before)), fun _ => ?_⟩
  refine ⟨?_, _, _, ([] ++ before) ++ [], ⟨[] ++ before, [], trodAll_append (hargs _ (fun _ _ => rfl)) (hres _ _ _), hvars _, rfl, ?_, ?_⟩, ?_⟩
  · intro j t r hj hv
    rw [hrt] at hj hv
    match j, hj, hv with
    | 0, hj, hv =>
      simp [Value.resultList] at hj hv
      subst hj; subst hv
      simp [Value.okWide, hb4, Cell.okWide, Cell.ok]
    | j + 1, hj, hv => simp at hj
  · intro b off hp
    have hin : MemPlace.cell b off ∈ before := by simpa using hp
    rw [hb.frozen (hlt _ hin)]
    exact hz b off hin
  · intro ha
    simpa using hn ha
  · intro x hx _
    simpa using hx
end
end Go.Sx
end
