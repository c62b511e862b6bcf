/- Part 8 of the texts of a claim: Unw Same EqDot Msg2. -/
import Derived.Test.YtonhcoeneahpaaaDoorTb7
section
namespace Go.Proofs.YtonhcoeneahpaaaDoor
open Go Go.Sx
def unwire (l : List UInt8) : MsgT × Nat :=
  if 6000 < l.length ∨ l.length < 4 then (zeroM, 1)
  else if enc4 (sumN (l.take (l.length - 4)) : Int) ≠ l.drop (l.length - 4) then (zeroM, 8)
  else if (rMsg (l.take (l.length - 4), false)).2.2 = true ∨ (rMsg (l.take (l.length - 4), false)).2.1 ≠ [] then (zeroM, 1) else ((rMsg (l.take (l.length - 4), false)).1, 0)
theorem unwire_same (l : List UInt8) : unwire l = decodeE l := by
  unfold unwire decodeE
  split
  · rfl
  split
  · rfl
  rw [parse_doc]
  split
  · rfl
  · rfl
theorem rLoop_stop {α : Type} {r : St2 → α × St2} (k : Nat) {s : St2} (h : s.2 = true) : rLoop r k s = ([], s) := by
  cases k with
  | zero => rfl
  | succ k =>
    simp only [rLoop]
    rw [if_pos h]
theorem rLoop_step {α : Type} {r : St2 → α × St2} {n i : Int} {s s1 : St2} {x : α} (hi : i < n) (h0 : 0 ≤ i) (hb : s.2 = false) (h : r s = (x, s1)) : rLoop r (n - i).toNat s = (x :: (rLoop r (n - (i + 1)).toNat s1).1, (rLoop r (n - (i + 1)).toNat s1).2) := by
  have e : (n - i).toNat = (n - (i + 1)).toNat + 1 := by omega
  rw [e]
  simp only [rLoop]
  rw [if_neg (by rw [hb]; decide), h]
structure RdI (α : Type) where
  i : Int
  a : Option Addr
  k : Nat
  c : Nat
  s : ByteArray
  b : Bool
  l : List α
set_option maxHeartbeats 4000000 in
theorem unwireW {w0 : World} {S0 : Nat → Prop} {s0 : ByteArray} (hs : s0.size ≤ 90000) :
    Calls Tryd.prog 16 #[.string s0] w0 fun e w' => ∃ m k a1 n1 c1 a2 n2 c2, unwire s0.data.toList = (m, k) ∧
      Ret [] w0 S0 w' e (.tuple #[.agg #[.int .i64 m.fm, .int .i64 m.to, .int .i64 m.shard, .int .i64 m.seq, .int .i64 m.time, .bool m.beat, .slice a1 n1 c1, .int .i64 m.c.place, .slice a2 n2 c2], .int .i64 k]) [] [(.slice a1 n1 c1, dInts m.c.when), (.slice a2 n2 c2, .sl 7 (m.c.ops.map eOp))] := by
  have hz0 : s0.data.toList.length = s0.size := by simp
  refine ep16 (args := [.string s0]) (S := S0) (G := []) (by kernel_rfl) (AllG.nil _ _) ?_
  refine J_seq ?_
  refine Zm [.wr 0 [] 0, .rd 1 [] 0 0] [] [] (fun nu1 => [(2, .val (.pointer (some (⟨nu1 0, 0, none⟩)))), (3, .val (.int .i64 0))]) (fun nu1 => [(nu1 0, .cells #[.int .i64 0, .int .i64 0, .int .i64 0, .int .i64 0, .int .i64 0, .bool false, .slice none 0 0, .int .i64 0, .slice none 0 0] 27 (0, 0))]) (fun nu1 => ?_)
  refine J_seq ?_
  refine J_seq ?_
  refine Za (Rds 0 4 ++ [.rd 4 [] 2 0, .rd 5 [] 2 0, .rd 6 [] 2 0, .rd 7 [] 0 3]) [] [(23, .val (.bool (decide ((↑s0.size : Int) > 6000) || decide ((↑s0.size : Int) < 4))))] ?_
  refine J_cond (t := decide ((↑s0.size : Int) > 6000) || decide ((↑s0.size : Int) < 4)) (by kernel_rfl) (by kernel_rfl) (fun hlen => ?_) (fun hlen => ?_)
  · have hl : 6000 < s0.data.toList.length ∨ s0.data.toList.length < 4 := by
      rw [hz0]
      simp at hlen
      omega
    refine J_seq ?_
    refine Zm [.rd 0 [] 0 0, .wr 1 [.o 0 none, .o 0 none, .o 0 none, .o 0 none, .o 0 none, .o 0 none, .o 0 none, .o 0 none, .o 0 none] 0, .rd 2 [] 0 0] [(1, [0])] [23] (fun _ => [(3, .val (.int .i64 1))]) (fun _ => [(nu1 0, .cells #[.int .i64 0, .int .i64 0, .int .i64 0, .int .i64 0, .int .i64 0, .bool false, .slice none 0 0, .int .i64 0, .slice none 0 0] 27 (0, 0))]) (fun _ => ?_)
    refine Yr [[.o 0 none, .o 0 none, .o 0 none, .o 0 none, .o 0 none, .o 0 none, .o 0 none, .o 0 none, .o 0 none], []] (.tuple #[.agg #[.int .i64 0, .int .i64 0, .int .i64 0, .int .i64 0, .int .i64 0, .bool false, .slice none 0 0, .int .i64 0, .slice none 0 0], .int .i64 1]) fun a w s => ?_
    refine ⟨zeroM, 1, none, 0, 0, none, 0, 0, ?_, zret s⟩
    rw [unwire, if_pos hl]
  · have h4 : 4 ≤ s0.size := by simp at hlen; omega
    have h60 : s0.size ≤ 6000 := by simp at hlen; omega
    have hl : ¬ (6000 < s0.data.toList.length ∨ s0.data.toList.length < 4) := by omega
    have ek : ((s0.size : Int) - 4).toNat = s0.data.toList.length - 4 := by omega
    have ht : (s0.extract 0 ((s0.size : Int) - 4).toNat).data.toList = s0.data.toList.take (s0.data.toList.length - 4) := by rw [ext_take, ek]
    have hts : (s0.extract 0 ((s0.size : Int) - 4).toNat).size ≤ 6000 := by
      have : (s0.extract 0 ((s0.size : Int) - 4).toNat).data.toList.length ≤ 6000 := by
        rw [ht, List.length_take]
        omega
      simpa using this
    refine J_skip ?_
    refine J_seq ?_
    refine Zp (Rds 0 3 ++ [.rd 3 [] 0 1, .rd 4 [] 0 4, .rd 5 [] 0 0]) [23] [(4, .val (.string (s0.extract 0 ((↑s0.size : Int) - 4).toNat)))] [IntKind.i64.wrap ((↑s0.size : Int) - (4 : Int)) = (↑s0.size : Int) - (4 : Int), (0 : Int) ≤ (↑s0.size : Int) - (4 : Int), (↑s0.size : Int) - (4 : Int) ≤ (↑s0.size : Int)] ⟨wrap_i64 (by omega) (by omega), by omega, by omega, trivial⟩ ?_
    refine J_seq ?_
    refine jT [(0, true), (1, false), (2, true)] [] ?_
    refine Ya (id := 4) (rest := [(1, false), (2, true)]) [.rd 0 [] 0 0] [] [(30, .val (.string (s0.extract 0 ((↑s0.size : Int) - 4).toNat)))] ?_
    refine Yc 14 #[.string (s0.extract 0 ((↑s0.size : Int) - 4).toNat)] (some 31) fun w S hG => ?_
    refine (sumRB (S := S) (by omega)).mono ?_
    rintro e1 w1 hR
    refine ⟨_, _, _, hR, ?_⟩
    rw [ht] at hR ⊢
    try simp only [aQ]
    refine Ya (id := 4) (rest := []) [.rd 2 [] 0 0] [31, 30] [(5, .val (.int .i64 ((↑(sumN (List.take (s0.data.toList.length - 4) s0.data.toList)) : Int))))] ?_
    refine JR_end ?_
    refine J_seq ?_
    refine J_seq ?_
    refine jT [(0, true), (1, true), (3, true), (4, true), (7, true), (8, true), (11, true), (14, true), (15, true), (16, true), (17, true), (18, true), (2, false), (5, false), (6, true), (9, false), (10, true), (12, false), (13, true), (19, true)] [] ?_
    refine Yp (id := 5) (rest := [(2, false), (5, false), (6, true), (9, false), (10, true), (12, false), (13, true), (19, true)]) ([.rd 0 [] 0 0, .rd 1 [] 0 0, .rd 3 [] 0 0, .rd 4 [] 0 0, .rd 7 [] 0 0, .rd 8 [] 0 0, .rd 11 [] 0 0] ++ Rds 14 17 ++ [.rd 17 [] 0 1, .rd 18 [] 0 4]) [5, 0] [(33, .val (.int .i64 ((↑(sumN (List.take (s0.data.toList.length - 4) s0.data.toList)) : Int).fdiv (2 ^ min (Int.toNat 24) IntKind.i64.bits)))), (36, .val (.int .i64 ((↑(sumN (List.take (s0.data.toList.length - 4) s0.data.toList)) : Int).fdiv (2 ^ min (Int.toNat 16) IntKind.i64.bits)))), (40, .val (.int .i64 ((↑(sumN (List.take (s0.data.toList.length - 4) s0.data.toList)) : Int).fdiv (2 ^ min (Int.toNat 8) IntKind.i64.bits)))), (43, .val (.int .i64 ((↑(sumN (List.take (s0.data.toList.length - 4) s0.data.toList)) : Int)))), (50, .val (.string (s0.extract ((↑s0.size : Int) - 4).toNat s0.size)))] [IntKind.i64.wrap ((↑s0.size : Int) - (4 : Int)) = (↑s0.size : Int) - (4 : Int), (0 : Int) ≤ (↑s0.size : Int) - (4 : Int), (↑s0.size : Int) - (4 : Int) ≤ (↑s0.size : Int)] ⟨wrap_i64 (by omega) (by omega), by omega, by omega, trivial⟩ ?_
    refine Yc 15 #[.int .i64 ((↑(sumN (List.take (s0.data.toList.length - 4) s0.data.toList)) : Int).fdiv (2 ^ min (Int.toNat 24) IntKind.i64.bits))] (some 34) fun w S hG => ?_
    refine (byteW (S := S)).mono ?_
    rintro e2 w2 hR
    refine ⟨_, _, _, hR, ?_⟩
    try simp only [aQ]
    refine Yc 15 #[.int .i64 ((↑(sumN (List.take (s0.data.toList.length - 4) s0.data.toList)) : Int).fdiv (2 ^ min (Int.toNat 16) IntKind.i64.bits))] (some 37) fun w S hG => ?_
    refine (byteW (S := S)).mono ?_
    rintro e3 w3 hR
    refine ⟨_, _, _, hR, ?_⟩
    try simp only [aQ]
    refine Yp (id := 5) (rest := [(9, false), (10, true), (12, false), (13, true), (19, true)]) [.rd 6 [.r 0 (some (.string (ByteArray.mk ([byteI ((↑(sumN (List.take (s0.data.toList.length - 4) s0.data.toList)) : Int).fdiv (2 ^ min (Int.toNat 24) IntKind.i64.bits)) 0] ++ [byteI ((↑(sumN (List.take (s0.data.toList.length - 4) s0.data.toList)) : Int).fdiv (2 ^ min (Int.toNat 16) IntKind.i64.bits)) 0]).toArray)))] 0 10] [37, 34, 33, 36] [(38, .val (.string (ByteArray.mk ([byteI ((↑(sumN (List.take (s0.data.toList.length - 4) s0.data.toList)) : Int).fdiv (2 ^ min (Int.toNat 24) IntKind.i64.bits)) 0] ++ [byteI ((↑(sumN (List.take (s0.data.toList.length - 4) s0.data.toList)) : Int).fdiv (2 ^ min (Int.toNat 16) IntKind.i64.bits)) 0]).toArray)))] [eqRun Tryd.prog .add 9 (Operand.tmp 34) (Operand.tmp 37) (.string (ByteArray.mk #[byteI ((↑(sumN (List.take (s0.data.toList.length - 4) s0.data.toList)) : Int).fdiv (2 ^ min (Int.toNat 24) IntKind.i64.bits)) 0])) (.string (ByteArray.mk #[byteI ((↑(sumN (List.take (s0.data.toList.length - 4) s0.data.toList)) : Int).fdiv (2 ^ min (Int.toNat 16) IntKind.i64.bits)) 0])) (.string (ByteArray.mk ([byteI ((↑(sumN (List.take (s0.data.toList.length - 4) s0.data.toList)) : Int).fdiv (2 ^ min (Int.toNat 24) IntKind.i64.bits)) 0] ++ [byteI ((↑(sumN (List.take (s0.data.toList.length - 4) s0.data.toList)) : Int).fdiv (2 ^ min (Int.toNat 16) IntKind.i64.bits)) 0]).toArray))] ⟨eqRun_cat _ _ (by simp only [List.length_cons, List.length_nil]; omega), trivial⟩ ?_
    refine Yc 15 #[.int .i64 ((↑(sumN (List.take (s0.data.toList.length - 4) s0.data.toList)) : Int).fdiv (2 ^ min (Int.toNat 8) IntKind.i64.bits))] (some 41) fun w S hG => ?_
    refine (byteW (S := S)).mono ?_
    rintro e4 w4 hR
    refine ⟨_, _, _, hR, ?_⟩
    try simp only [aQ]
    refine Yp (id := 5) (rest := [(12, false), (13, true), (19, true)]) [.rd 10 [.r 0 (some (.string (ByteArray.mk ([byteI ((↑(sumN (List.take (s0.data.toList.length - 4) s0.data.toList)) : Int).fdiv (2 ^ min (Int.toNat 24) IntKind.i64.bits)) 0, byteI ((↑(sumN (List.take (s0.data.toList.length - 4) s0.data.toList)) : Int).fdiv (2 ^ min (Int.toNat 16) IntKind.i64.bits)) 0] ++ [byteI ((↑(sumN (List.take (s0.data.toList.length - 4) s0.data.toList)) : Int).fdiv (2 ^ min (Int.toNat 8) IntKind.i64.bits)) 0]).toArray)))] 0 10] [41, 38, 40] [(42, .val (.string (ByteArray.mk ([byteI ((↑(sumN (List.take (s0.data.toList.length - 4) s0.data.toList)) : Int).fdiv (2 ^ min (Int.toNat 24) IntKind.i64.bits)) 0, byteI ((↑(sumN (List.take (s0.data.toList.length - 4) s0.data.toList)) : Int).fdiv (2 ^ min (Int.toNat 16) IntKind.i64.bits)) 0] ++ [byteI ((↑(sumN (List.take (s0.data.toList.length - 4) s0.data.toList)) : Int).fdiv (2 ^ min (Int.toNat 8) IntKind.i64.bits)) 0]).toArray)))] [eqRun Tryd.prog .add 9 (Operand.tmp 38) (Operand.tmp 41) (.string (ByteArray.mk #[byteI ((↑(sumN (List.take (s0.data.toList.length - 4) s0.data.toList)) : Int).fdiv (2 ^ min (Int.toNat 24) IntKind.i64.bits)) 0, byteI ((↑(sumN (List.take (s0.data.toList.length - 4) s0.data.toList)) : Int).fdiv (2 ^ min (Int.toNat 16) IntKind.i64.bits)) 0])) (.string (ByteArray.mk #[byteI ((↑(sumN (List.take (s0.data.toList.length - 4) s0.data.toList)) : Int).fdiv (2 ^ min (Int.toNat 8) IntKind.i64.bits)) 0])) (.string (ByteArray.mk ([byteI ((↑(sumN (List.take (s0.data.toList.length - 4) s0.data.toList)) : Int).fdiv (2 ^ min (Int.toNat 24) IntKind.i64.bits)) 0, byteI ((↑(sumN (List.take (s0.data.toList.length - 4) s0.data.toList)) : Int).fdiv (2 ^ min (Int.toNat 16) IntKind.i64.bits)) 0] ++ [byteI ((↑(sumN (List.take (s0.data.toList.length - 4) s0.data.toList)) : Int).fdiv (2 ^ min (Int.toNat 8) IntKind.i64.bits)) 0]).toArray))] ⟨eqRun_cat _ _ (by simp only [List.length_cons, List.length_nil]; omega), trivial⟩ ?_
    refine Yc 15 #[.int .i64 ((↑(sumN (List.take (s0.data.toList.length - 4) s0.data.toList)) : Int))] (some 44) fun w S hG => ?_
    refine (byteW (S := S)).mono ?_
    rintro e5 w5 hR
    refine ⟨_, _, _, hR, ?_⟩
    try simp only [aQ]
    refine Yp (id := 5) (rest := []) [.rd 13 [.r 0 (some (.string (ByteArray.mk ([byteI ((↑(sumN (List.take (s0.data.toList.length - 4) s0.data.toList)) : Int).fdiv (2 ^ min (Int.toNat 24) IntKind.i64.bits)) 0, byteI ((↑(sumN (List.take (s0.data.toList.length - 4) s0.data.toList)) : Int).fdiv (2 ^ min (Int.toNat 16) IntKind.i64.bits)) 0, byteI ((↑(sumN (List.take (s0.data.toList.length - 4) s0.data.toList)) : Int).fdiv (2 ^ min (Int.toNat 8) IntKind.i64.bits)) 0] ++ [byteI (↑(sumN (List.take (s0.data.toList.length - 4) s0.data.toList)) : Int) 0]).toArray)))] 0 10, .rd 19 [] 0 0] [44, 42, 43, 50] [(51, .val (.bool (!(ByteArray.mk ([byteI ((↑(sumN (List.take (s0.data.toList.length - 4) s0.data.toList)) : Int).fdiv (2 ^ min (Int.toNat 24) IntKind.i64.bits)) 0, byteI ((↑(sumN (List.take (s0.data.toList.length - 4) s0.data.toList)) : Int).fdiv (2 ^ min (Int.toNat 16) IntKind.i64.bits)) 0, byteI ((↑(sumN (List.take (s0.data.toList.length - 4) s0.data.toList)) : Int).fdiv (2 ^ min (Int.toNat 8) IntKind.i64.bits)) 0] ++ [byteI (↑(sumN (List.take (s0.data.toList.length - 4) s0.data.toList)) : Int) 0]).toArray).toList == (s0.extract ((↑s0.size : Int) - 4).toNat s0.size).toList)))] [eqRun Tryd.prog .add 9 (Operand.tmp 42) (Operand.tmp 44) (.string (ByteArray.mk #[byteI ((↑(sumN (List.take (s0.data.toList.length - 4) s0.data.toList)) : Int).fdiv (2 ^ min (Int.toNat 24) IntKind.i64.bits)) 0, byteI ((↑(sumN (List.take (s0.data.toList.length - 4) s0.data.toList)) : Int).fdiv (2 ^ min (Int.toNat 16) IntKind.i64.bits)) 0, byteI ((↑(sumN (List.take (s0.data.toList.length - 4) s0.data.toList)) : Int).fdiv (2 ^ min (Int.toNat 8) IntKind.i64.bits)) 0])) (.string (ByteArray.mk #[byteI (↑(sumN (List.take (s0.data.toList.length - 4) s0.data.toList)) : Int) 0])) (.string (ByteArray.mk ([byteI ((↑(sumN (List.take (s0.data.toList.length - 4) s0.data.toList)) : Int).fdiv (2 ^ min (Int.toNat 24) IntKind.i64.bits)) 0, byteI ((↑(sumN (List.take (s0.data.toList.length - 4) s0.data.toList)) : Int).fdiv (2 ^ min (Int.toNat 16) IntKind.i64.bits)) 0, byteI ((↑(sumN (List.take (s0.data.toList.length - 4) s0.data.toList)) : Int).fdiv (2 ^ min (Int.toNat 8) IntKind.i64.bits)) 0] ++ [byteI (↑(sumN (List.take (s0.data.toList.length - 4) s0.data.toList)) : Int) 0]).toArray))] ⟨eqRun_cat _ _ (by simp only [List.length_cons, List.length_nil]; omega), trivial⟩ ?_
    refine JR_end ?_
    have f3 := byteI_shr (n := (sumN (s0.data.toList.take (s0.data.toList.length - 4)) : Int)) (d := 2 ^ min (Int.toNat 24) IntKind.i64.bits) 3 rfl
    have f2 := byteI_shr (n := (sumN (s0.data.toList.take (s0.data.toList.length - 4)) : Int)) (d := 2 ^ min (Int.toNat 16) IntKind.i64.bits) 2 rfl
    have f1 := byteI_shr (n := (sumN (s0.data.toList.take (s0.data.toList.length - 4)) : Int)) (d := 2 ^ min (Int.toNat 8) IntKind.i64.bits) 1 rfl
    refine J_cond (t := !(ByteArray.mk ([byteI ((↑(sumN (List.take (s0.data.toList.length - 4) s0.data.toList)) : Int).fdiv (2 ^ min (Int.toNat 24) IntKind.i64.bits)) 0, byteI ((↑(sumN (List.take (s0.data.toList.length - 4) s0.data.toList)) : Int).fdiv (2 ^ min (Int.toNat 16) IntKind.i64.bits)) 0, byteI ((↑(sumN (List.take (s0.data.toList.length - 4) s0.data.toList)) : Int).fdiv (2 ^ min (Int.toNat 8) IntKind.i64.bits)) 0] ++ [byteI (↑(sumN (List.take (s0.data.toList.length - 4) s0.data.toList)) : Int) 0]).toArray).toList == (s0.extract ((↑s0.size : Int) - 4).toNat s0.size).toList) (by kernel_rfl) (by kernel_rfl) (fun hsum => ?_) (fun hsum => ?_)
    · have hne : enc4 (sumN (s0.data.toList.take (s0.data.toList.length - 4)) : Int) ≠ s0.data.toList.drop (s0.data.toList.length - 4) := fun he => by
        rw [ByteArray.toList_eq, ByteArray.toList_eq, ext_drop, ek, f3, f2, f1] at hsum
        simp at hsum
        rw [hz0] at he
        exact hsum he
      refine J_seq ?_
      refine Zm [.rd 0 [] 0 0, .wr 1 [.o 0 none, .o 0 none, .o 0 none, .o 0 none, .o 0 none, .o 0 none, .o 0 none, .o 0 none, .o 0 none] 0, .rd 2 [] 0 0] [(1, [0])] [51] (fun _ => [(3, .val (.int .i64 8))]) (fun _ => [(nu1 0, .cells #[.int .i64 0, .int .i64 0, .int .i64 0, .int .i64 0, .int .i64 0, .bool false, .slice none 0 0, .int .i64 0, .slice none 0 0] 27 (0, 0))]) (fun _ => ?_)
      refine Yr [[.o 0 none, .o 0 none, .o 0 none, .o 0 none, .o 0 none, .o 0 none, .o 0 none, .o 0 none, .o 0 none], []] (.tuple #[.agg #[.int .i64 0, .int .i64 0, .int .i64 0, .int .i64 0, .int .i64 0, .bool false, .slice none 0 0, .int .i64 0, .slice none 0 0], .int .i64 8]) fun a w s => ?_
      refine ⟨zeroM, 8, none, 0, 0, none, 0, 0, ?_, zret s⟩
      rw [unwire, if_neg hl, if_pos hne]
    · have heq : ¬ (enc4 (sumN (s0.data.toList.take (s0.data.toList.length - 4)) : Int) ≠ s0.data.toList.drop (s0.data.toList.length - 4)) := fun he => by
        rw [ByteArray.toList_eq, ByteArray.toList_eq, ext_drop, ek, f3, f2, f1] at hsum
        simp at hsum
        rw [hz0] at he
        exact he hsum
      obtain ⟨t0, ht0⟩ : ∃ t, t = s0.extract 0 ((s0.size : Int) - 4).toNat := ⟨_, rfl⟩
      have hdec : unwire s0.data.toList = if (rMsg (t0.data.toList, false)).2.2 = true ∨ (rMsg (t0.data.toList, false)).2.1 ≠ [] then (zeroM, 1) else ((rMsg (t0.data.toList, false)).1, 0) := by
        rw [unwire, if_neg hl, if_neg heq, ht0, ht]
      rw [← ht0] at hts
      refine J_skip ?_
      refine J_seq ?_
      refine Zm [.rd 0 [] 0 0, .rd 1 [] 0 0, .wr 2 [] 0, .rd 3 [] 0 0] [] [51, 4] (fun nu2 => [(6, .val (.pointer (some (⟨nu2 0, 0, none⟩))))]) (fun nu2 => [(nu1 0, .cells #[.int .i64 0, .int .i64 0, .int .i64 0, .int .i64 0, .int .i64 0, .bool false, .slice none 0 0, .int .i64 0, .slice none 0 0] 27 (0, 0)), (nu2 0, .cells #[.string (s0.extract 0 ((↑s0.size : Int) - 4).toNat), .bool false] 81 (0, 0))]) (fun nu2 => ?_)
      refine J_seq ?_
      refine Zm [.rd 0 [] 0 0, .wr 1 [] 0, .wr 2 [.o 2 none, .o 2 none, .o 2 none, .o 2 none, .o 2 none, .o 2 none, .o 2 none, .o 2 none, .o 2 none] 0] [(2, [])] [] (fun nu3 => [(7, .val (.pointer (some (⟨nu3 0, 0, none⟩))))]) (fun nu3 => [(nu1 0, .cells #[.int .i64 0, .int .i64 0, .int .i64 0, .int .i64 0, .int .i64 0, .bool false, .slice none 0 0, .int .i64 0, .slice none 0 0] 27 (0, 0)), (nu2 0, .cells #[.string (s0.extract 0 ((↑s0.size : Int) - 4).toNat), .bool false] 81 (0, 0)), (nu3 0, .cells #[.int .i64 0, .int .i64 0, .int .i64 0, .int .i64 0, .int .i64 0, .bool false, .slice none 0 0, .int .i64 0, .slice none 0 0] 27 (0, 0))]) (fun nu3 => ?_)
      refine J_seq ?_
      rw [← ht0]
      refine J_hide 1 rfl ?_
      try simp only [aQ]
      refine jT [(0, true), (1, false), (2, true), (3, false)] [] ?_
      refine Ya (id := 9) (rest := [(1, false), (2, true), (3, false)]) [.rd 0 [] 0 0] [] [(57, .val (.pointer (some (⟨nu2 0, 0, none⟩))))] ?_
      refine JR_call [] [0] 33 #[.pointer (some (⟨nu2 0, 0, none⟩))] (some 58) (by kernel_rfl) (by kernel_rfl) (by decide) (fun w S M hP hG _ => ?_)
      refine (rNumber (by omega) hP).mono ?_
      rintro e11 w11 ⟨fm, t1, b1, h1, hle1, hR⟩
      refine ⟨_, _, _, hR, ?_⟩
      try simp only [aQ]
      refine Ym (id := 9) (rest := []) [.rd 2 [] 0 0, .wr 3 [.o 1 none] 0] [58, 57] (fun _ => []) (fun _ => [(nu1 0, .cells #[.int .i64 0, .int .i64 0, .int .i64 0, .int .i64 0, .int .i64 0, .bool false, .slice none 0 0, .int .i64 0, .slice none 0 0] 27 (0, 0)), (nu3 0, .cells #[.int .i64 fm, .int .i64 0, .int .i64 0, .int .i64 0, .int .i64 0, .bool false, .slice none 0 0, .int .i64 0, .slice none 0 0] 27 (0, 0))]) [] (fun _ => ?_)
      try simp only [aQ]
      refine JR_end ?_
      try simp only [aQ]
      refine J_seq ?_
      try simp only [aQ]
      refine Nm [cObj (nu2 0) (.cells #[.string t1, .bool b1] 81 (0, 0))] ?_
      refine jT [(0, true), (1, false), (2, true), (3, false)] [] ?_
      refine Ya (id := 10) (rest := [(1, false), (2, true), (3, false)]) [.rd 0 [] 0 0] [] [(60, .val (.pointer (some (⟨nu2 0, 0, none⟩))))] ?_
      refine JR_call [] [0] 33 #[.pointer (some (⟨nu2 0, 0, none⟩))] (some 61) (by kernel_rfl) (by kernel_rfl) (by decide) (fun w S M hP hG _ => ?_)
      refine (rNumber (by omega) hP).mono ?_
      rintro e12 w12 ⟨to, t2, b2, h2, hle2, hR⟩
      refine ⟨_, _, _, hR, ?_⟩
      try simp only [aQ]
      refine Ym (id := 10) (rest := []) [.rd 2 [] 0 0, .wr 3 [.o 1 none] 0] [61, 60] (fun _ => []) (fun _ => [(nu1 0, .cells #[.int .i64 0, .int .i64 0, .int .i64 0, .int .i64 0, .int .i64 0, .bool false, .slice none 0 0, .int .i64 0, .slice none 0 0] 27 (0, 0)), (nu3 0, .cells #[.int .i64 fm, .int .i64 to, .int .i64 0, .int .i64 0, .int .i64 0, .bool false, .slice none 0 0, .int .i64 0, .slice none 0 0] 27 (0, 0))]) [] (fun _ => ?_)
      try simp only [aQ]
      refine JR_end ?_
      try simp only [aQ]
      refine J_seq ?_
      try simp only [aQ]
      refine Nm [cObj (nu2 0) (.cells #[.string t2, .bool b2] 81 (0, 0))] ?_
      refine jT [(0, true), (1, false), (2, true), (3, false)] [] ?_
      refine Ya (id := 11) (rest := [(1, false), (2, true), (3, false)]) [.rd 0 [] 0 0] [] [(63, .val (.pointer (some (⟨nu2 0, 0, none⟩))))] ?_
      refine JR_call [] [0] 33 #[.pointer (some (⟨nu2 0, 0, none⟩))] (some 64) (by kernel_rfl) (by kernel_rfl) (by decide) (fun w S M hP hG _ => ?_)
      refine (rNumber (by omega) hP).mono ?_
      rintro e13 w13 ⟨sh, t3, b3, h3, hle3, hR⟩
      refine ⟨_, _, _, hR, ?_⟩
      try simp only [aQ]
      refine Ym (id := 11) (rest := []) [.rd 2 [] 0 0, .wr 3 [.o 1 none] 0] [64, 63] (fun _ => []) (fun _ => [(nu1 0, .cells #[.int .i64 0, .int .i64 0, .int .i64 0, .int .i64 0, .int .i64 0, .bool false, .slice none 0 0, .int .i64 0, .slice none 0 0] 27 (0, 0)), (nu3 0, .cells #[.int .i64 fm, .int .i64 to, .int .i64 sh, .int .i64 0, .int .i64 0, .bool false, .slice none 0 0, .int .i64 0, .slice none 0 0] 27 (0, 0))]) [] (fun _ => ?_)
      try simp only [aQ]
      refine JR_end ?_
      try simp only [aQ]
      refine J_seq ?_
      try simp only [aQ]
      refine Nm [cObj (nu2 0) (.cells #[.string t3, .bool b3] 81 (0, 0))] ?_
      refine jT [(0, true), (1, false), (2, true), (3, false)] [] ?_
      refine Ya (id := 12) (rest := [(1, false), (2, true), (3, false)]) [.rd 0 [] 0 0] [] [(66, .val (.pointer (some (⟨nu2 0, 0, none⟩))))] ?_
      refine JR_call [] [0] 33 #[.pointer (some (⟨nu2 0, 0, none⟩))] (some 67) (by kernel_rfl) (by kernel_rfl) (by decide) (fun w S M hP hG _ => ?_)
      refine (rNumber (by omega) hP).mono ?_
      rintro e14 w14 ⟨sq, t4, b4, h4, hle4, hR⟩
      refine ⟨_, _, _, hR, ?_⟩
      try simp only [aQ]
      refine Ym (id := 12) (rest := []) [.rd 2 [] 0 0, .wr 3 [.o 1 none] 0] [67, 66] (fun _ => []) (fun _ => [(nu1 0, .cells #[.int .i64 0, .int .i64 0, .int .i64 0, .int .i64 0, .int .i64 0, .bool false, .slice none 0 0, .int .i64 0, .slice none 0 0] 27 (0, 0)), (nu3 0, .cells #[.int .i64 fm, .int .i64 to, .int .i64 sh, .int .i64 sq, .int .i64 0, .bool false, .slice none 0 0, .int .i64 0, .slice none 0 0] 27 (0, 0))]) [] (fun _ => ?_)
      try simp only [aQ]
      refine JR_end ?_
      try simp only [aQ]
      refine J_seq ?_
      try simp only [aQ]
      refine Nm [cObj (nu2 0) (.cells #[.string t4, .bool b4] 81 (0, 0))] ?_
      refine jT [(0, true), (1, false), (2, true), (3, false)] [] ?_
      refine Ya (id := 13) (rest := [(1, false), (2, true), (3, false)]) [.rd 0 [] 0 0] [] [(69, .val (.pointer (some (⟨nu2 0, 0, none⟩))))] ?_
      refine JR_call [] [0] 33 #[.pointer (some (⟨nu2 0, 0, none⟩))] (some 70) (by kernel_rfl) (by kernel_rfl) (by decide) (fun w S M hP hG _ => ?_)
      refine (rNumber (by omega) hP).mono ?_
      rintro e15 w15 ⟨ti, t5, b5, h5, hle5, hR⟩
      refine ⟨_, _, _, hR, ?_⟩
      try simp only [aQ]
      refine Ym (id := 13) (rest := []) [.rd 2 [] 0 0, .wr 3 [.o 1 none] 0] [70, 69] (fun _ => []) (fun _ => [(nu1 0, .cells #[.int .i64 0, .int .i64 0, .int .i64 0, .int .i64 0, .int .i64 0, .bool false, .slice none 0 0, .int .i64 0, .slice none 0 0] 27 (0, 0)), (nu3 0, .cells #[.int .i64 fm, .int .i64 to, .int .i64 sh, .int .i64 sq, .int .i64 ti, .bool false, .slice none 0 0, .int .i64 0, .slice none 0 0] 27 (0, 0))]) [] (fun _ => ?_)
      try simp only [aQ]
      refine JR_end ?_
      try simp only [aQ]
      refine J_seq ?_
      try simp only [aQ]
      refine Nm [cObj (nu2 0) (.cells #[.string t5, .bool b5] 81 (0, 0))] ?_
      refine jT [(0, true), (1, false), (2, true), (3, false)] [] ?_
      refine Ya (id := 14) (rest := [(1, false), (2, true), (3, false)]) [.rd 0 [] 0 0] [] [(72, .val (.pointer (some (⟨nu2 0, 0, none⟩))))] ?_
      refine JR_call [] [0] 34 #[.pointer (some (⟨nu2 0, 0, none⟩))] (some 73) (by kernel_rfl) (by kernel_rfl) (by decide) (fun w S M hP hG _ => ?_)
      refine (rFlagC (by omega) hP).mono ?_
      rintro e16 w16 ⟨be, t6, b6, h6, hle6, hR⟩
      refine ⟨_, _, _, hR, ?_⟩
      try simp only [aQ]
      refine Ym (id := 14) (rest := []) [.rd 2 [] 0 0, .wr 3 [.o 1 none] 0] [73, 72] (fun _ => []) (fun _ => [(nu1 0, .cells #[.int .i64 0, .int .i64 0, .int .i64 0, .int .i64 0, .int .i64 0, .bool false, .slice none 0 0, .int .i64 0, .slice none 0 0] 27 (0, 0)), (nu3 0, .cells #[.int .i64 fm, .int .i64 to, .int .i64 sh, .int .i64 sq, .int .i64 ti, .bool be, .slice none 0 0, .int .i64 0, .slice none 0 0] 27 (0, 0))]) [] (fun _ => ?_)
      try simp only [aQ]
      refine JR_end ?_
      try simp only [aQ]
      refine J_seq ?_
      try simp only [aQ]
      refine Nm [cObj (nu2 0) (.cells #[.string t6, .bool b6] 81 (0, 0))] ?_
      refine jT [(0, true), (1, false), (2, true)] [] ?_
      refine Ya (id := 15) (rest := [(1, false), (2, true)]) [.rd 0 [] 0 0] [] [(75, .val (.pointer (some (⟨nu2 0, 0, none⟩))))] ?_
      refine JR_call [] [0] 35 #[.pointer (some (⟨nu2 0, 0, none⟩))] (some 76) (by kernel_rfl) (by kernel_rfl) (by decide) (fun w S M hP hG _ => ?_)
      refine (rManyC (by omega) hP).mono ?_
      rintro e17 w17 ⟨nw, t7, b7, h7, hw0, hw1, hle7, hR⟩
      refine ⟨_, _, _, hR, ?_⟩
      try simp only [aQ]
      refine Ya (id := 15) (rest := []) [.rd 2 [] 0 0] [76, 75] [(8, .val (.int .i64 nw))] ?_
      try simp only [aQ]
      refine JR_end ?_
      try simp only [aQ]
      refine J_seq ?_
      try simp only [aQ]
      refine J_seq ?_
      try simp only [aQ]
      refine Nm [cObj (nu2 0) (.cells #[.string t7, .bool b7] 81 (0, 0))] ?_
      refine J_stp (stp_accm eI 3 1) ?_
      try simp only [aQ]
      refine Za [.rd 0 [] 0 0] [] [(9, .val (.int .i64 0))] ?_
      refine J_block ?_
      refine J_loopx (fun x : RdI Int => [(2, .val (.pointer (some (⟨nu1 0, 0, none⟩)))), (3, .val (.int .i64 0)), (6, .val (.pointer (some (⟨nu2 0, 0, none⟩)))), (7, .val (.pointer (some (⟨nu3 0, 0, none⟩)))), (8, .val (.int .i64 nw)), (9, .val (.int .i64 x.i))]) (fun x : RdI Int => [(nu1 0, .cells #[.int .i64 0, .int .i64 0, .int .i64 0, .int .i64 0, .int .i64 0, .bool false, .slice none 0 0, .int .i64 0, .slice none 0 0] 27 (0, 0)), (nu3 0, .cells #[.int .i64 fm, .int .i64 to, .int .i64 sh, .int .i64 sq, .int .i64 ti, .bool be, .slice x.a x.k x.c, .int .i64 0, .slice none 0 0] 27 (0, 0))]) (fun x : RdI Int => [cObj (nu2 0) (rdC x.s x.b), cAcc (.slice x.a x.k x.c) 3 1 (x.l.map eI)]) (fun x : RdI Int => []) (fun x : RdI Int => (nw - x.i).toNat) (fun x : RdI Int => (0 ≤ x.i ∧ x.i ≤ nw ∧ x.s.size ≤ t7.size ∧ (x.l.length : Int) = x.i ∧ rLoop rN nw.toNat (t7.data.toList, b7) = (x.l ++ (rLoop rN (nw - x.i).toNat (x.s.data.toList, x.b)).1, (rLoop rN (nw - x.i).toNat (x.s.data.toList, x.b)).2))) ⟨0, none, 0, 0, t7, b7, []⟩ [2, 3, 6, 7, 8, 9] [0, 1] [0, 1] [] ?_ (by kernel_rfl) rfl rfl rfl ?_
      · refine ⟨by simp, hw0, by simp, by simp, ?_⟩
        simp only [Int.sub_zero, List.nil_append]
      rintro ⟨i, av, k, cv, sa, ba, l⟩ ⟨hi0, hi, hsz, hll, hr⟩
      dsimp only at hi0 hi hsz hll hr ⊢
      refine J_stpx (stp_acclen 1 rfl) fun _ hk => ?_
      rw [List.length_map] at hk
      refine J_show 0 rfl ?_
      refine J_seq ?_
      refine J_seq ?_
      refine Za (Rds 0 4 ++ [.rd 4 [] 2 0, .rd 5 [] 2 0, .rd 6 [] 2 0, .rd 7 [.o 2 none] 2 0, .rd 8 [] 2 0, .rd 9 [] 0 3]) [] [(86, .val (.bool (decide (i < nw) && !ba)))] ?_
      refine J_cond (t := decide (i < nw) && !ba) (by kernel_rfl) (by kernel_rfl) (fun hc => ?_) (fun hc => ?_)
      · obtain ⟨hlt2, hba⟩ : i < nw ∧ ba = false := by simpa using hc
        refine J_hide 2 rfl ?_
        try simp only [aQ]
        refine J_skip ?_
        try simp only [aQ]
        refine J_seq ?_
        try simp only [aQ]
        refine J_block ?_
        try simp only [aQ]
        refine J_seq ?_
        try simp only [aQ]
        refine jT [(0, true), (1, false), (2, true)] [] ?_
        refine Ya (id := 19) (rest := [(1, false), (2, true)]) [.rd 0 [] 0 0] [86] [(89, .val (.pointer (some (⟨nu2 0, 0, none⟩))))] ?_
        refine JR_call [] [1] 33 #[.pointer (some (⟨nu2 0, 0, none⟩))] (some 90) (by kernel_rfl) (by kernel_rfl) (by decide) (fun w S M hP hG _ => ?_)
        refine (rNumber (by omega) hP).mono ?_
        rintro e18 w18 ⟨v, t20, b20, h20, hle20, hR⟩
        refine ⟨_, _, _, hR, ?_⟩
        try simp only [aQ]
        refine Ya (id := 19) (rest := []) [.rd 2 [] 0 0] [90, 89] [(10, .val (.int .i64 v))] ?_
        try simp only [aQ]
        refine JR_end ?_
        try simp only [aQ]
        refine Nm [cAcc (.slice av k cv) 3 1 (List.map eI l), cObj (nu2 0) (.cells #[.string t20, .bool b20] 81 (0, 0))] ?_
        refine jT [(0, true), (1, true), (2, true), (3, true), (4, false), (5, false), (6, true), (7, true), (8, false)] [] ?_
        refine Ym (id := 20) (rest := [(5, false), (6, true), (7, true), (8, false)]) [.rd 0 [] 0 0, .rd 1 [] 0 0, .rd 2 [.o 1 none] 0 0, .rd 3 [] 0 0, .wr 4 [] 0] [] (fun nu4 => [(93, .val (.slice av k cv)), (95, .val (.slice (some (⟨nu4 0, 0, none⟩)) 1 1))]) (fun nu4 => [(nu1 0, .cells #[.int .i64 0, .int .i64 0, .int .i64 0, .int .i64 0, .int .i64 0, .bool false, .slice none 0 0, .int .i64 0, .slice none 0 0] 27 (0, 0)), (nu3 0, .cells #[.int .i64 fm, .int .i64 to, .int .i64 sh, .int .i64 sq, .int .i64 ti, .bool be, .slice av k cv, .int .i64 0, .slice none 0 0] 27 (0, 0)), (nu4 0, .cells #[.int .i64 v] 3 (0, 0))]) [] (fun nu4 => ?_)
        refine JR_appm 0 22 3 1 8 (.int .i64 0) (a0 := av) (len := k) (cap0 := cv) (ax := (some (⟨nu4 0, 0, none⟩))) (m := 1) (c := 1) (dst := (some 96)) [(v : Int)] (by kernel_rfl) (by kernel_rfl) (by kernel_rfl) (by kernel_rfl) rfl (by decide) rfl (fun _ _ _ s => src_one s 2 rfl rfl ⟨.inl ⟨rfl, rfl⟩, trivial⟩) (by simp only [maxLen]; omega) (by omega) (fun av1 cv1 => ?_)
        try simp only [aQ]
        refine Ym (id := 20) (rest := []) [.rd 6 [] 0 0, .rd 7 [] 0 0, .wr 8 [.o 1 none] 0] [96, 93, 95] (fun _ => []) (fun _ => [(nu1 0, .cells #[.int .i64 0, .int .i64 0, .int .i64 0, .int .i64 0, .int .i64 0, .bool false, .slice none 0 0, .int .i64 0, .slice none 0 0] 27 (0, 0)), (nu3 0, .cells #[.int .i64 fm, .int .i64 to, .int .i64 sh, .int .i64 sq, .int .i64 ti, .bool be, .slice av1 (k + 1) cv1, .int .i64 0, .slice none 0 0] 27 (0, 0)), (nu4 0, .cells #[.int .i64 v] 3 (0, 0))]) [] (fun _ => ?_)
        try simp only [aQ]
        refine JR_end ?_
        try simp only [aQ]
        refine J_eb ?_
        try simp only [aQ]
        refine Zp [.rd 0 [] 0 0, .rd 1 [] 0 1, .rd 2 [] 0 0] [] [(9, .val (.int .i64 (i + 1)))] [IntKind.i64.wrap (i + (1 : Int)) = i + (1 : Int)] ⟨wrap_i64 (by omega) (by omega), trivial⟩ ?_
        try simp only [aQ]
        refine J_backx ⟨i + 1, av1, k + 1, cv1, t20, b20, l ++ [v]⟩ [2, 3, 6, 7, 8, 9] [0, 1] [0, 1] [] ?_ ?_ (by kernel_rfl) rfl rfl rfl
        · refine ⟨by simp only; omega, by simp only; omega, by simp only; omega, by simp; omega, ?_⟩
          simp only
          rw [hr, rLoop_step hlt2 hi0 hba h20]
          simp
        · simp only
          omega
      · have hend : rLoop rN nw.toNat (t7.data.toList, b7) = (l, (sa.data.toList, ba)) := by
          rw [hr]
          have hc2 : nw ≤ i ∨ ba = true := by
            cases ba with
            | true => exact .inr rfl
            | false =>
              simp at hc
              exact .inl hc
          rcases hc2 with h | h
          · obtain rfl : i = nw := by omega
            rw [Int.sub_self]
            simp [rLoop]
          · rw [rLoop_stop _ h]
            simp
        have hw : rL rN (t6.data.toList, b6) = (l, (sa.data.toList, ba)) := by
          simp only [rL, h7]
          exact hend
        refine J_hide 2 rfl ?_
        refine J_stp (stp_freeze 0 rfl) ?_
        try simp only [aQ]
        refine J_exit rfl ?_
        refine J_seq ?_
        refine Nm [cObj (nu2 0) (.cells #[.string sa, .bool ba] 81 (0, 0))] ?_
        refine jT [(0, true), (1, false), (2, true), (3, true), (4, false)] [] ?_
        refine Ya (id := 21) (rest := [(1, false), (2, true), (3, true), (4, false)]) [.rd 0 [] 0 0] [86, 9] [(99, .val (.pointer (some (⟨nu2 0, 0, none⟩))))] ?_
        refine JR_call [] [0] 33 #[.pointer (some (⟨nu2 0, 0, none⟩))] (some 100) (by kernel_rfl) (by kernel_rfl) (by decide) (fun w S M hP hG _ => ?_)
        refine (rNumber (by omega) hP).mono ?_
        rintro e19 w19 ⟨pl, t8, b8, h8, hle8, hR⟩
        refine ⟨_, _, _, hR, ?_⟩
        try simp only [aQ]
        refine Ym (id := 21) (rest := []) [.rd 2 [] 0 0, .rd 3 [] 0 0, .wr 4 [.o 1 none] 0] [100, 99] (fun _ => []) (fun _ => [(nu1 0, .cells #[.int .i64 0, .int .i64 0, .int .i64 0, .int .i64 0, .int .i64 0, .bool false, .slice none 0 0, .int .i64 0, .slice none 0 0] 27 (0, 0)), (nu3 0, .cells #[.int .i64 fm, .int .i64 to, .int .i64 sh, .int .i64 sq, .int .i64 ti, .bool be, .slice av k cv, .int .i64 pl, .slice none 0 0] 27 (0, 0))]) [] (fun _ => ?_)
        try simp only [aQ]
        refine JR_end ?_
        try simp only [aQ]
        refine J_seq ?_
        try simp only [aQ]
        refine Nm [cObj (nu2 0) (.cells #[.string t8, .bool b8] 81 (0, 0))] ?_
        refine jT [(0, true), (1, false), (2, true)] [] ?_
        refine Ya (id := 22) (rest := [(1, false), (2, true)]) [.rd 0 [] 0 0] [] [(103, .val (.pointer (some (⟨nu2 0, 0, none⟩))))] ?_
        refine JR_call [] [0] 35 #[.pointer (some (⟨nu2 0, 0, none⟩))] (some 104) (by kernel_rfl) (by kernel_rfl) (by decide) (fun w S M hP hG _ => ?_)
        refine (rManyC (by omega) hP).mono ?_
        rintro e20 w20 ⟨no, t9, b9, h9, ho0, ho1, hle9, hR⟩
        refine ⟨_, _, _, hR, ?_⟩
        try simp only [aQ]
        refine Ya (id := 22) (rest := []) [.rd 2 [] 0 0] [104, 103] [(8, .val (.int .i64 no))] ?_
        try simp only [aQ]
        refine JR_end ?_
        try simp only [aQ]
        refine J_seq ?_
        try simp only [aQ]
        refine J_seq ?_
        try simp only [aQ]
        refine Nm [cObj (nu2 0) (.cells #[.string t9, .bool b9] 81 (0, 0))] ?_
        refine J_stp (stp_accm eOp 52 7) ?_
        try simp only [aQ]
        refine Za [.rd 0 [] 0 0] [] [(11, .val (.int .i64 0))] ?_
        refine J_block ?_
        refine J_loopx (fun x : RdI OpT => [(2, .val (.pointer (some (⟨nu1 0, 0, none⟩)))), (3, .val (.int .i64 0)), (6, .val (.pointer (some (⟨nu2 0, 0, none⟩)))), (7, .val (.pointer (some (⟨nu3 0, 0, none⟩)))), (8, .val (.int .i64 no)), (11, .val (.int .i64 x.i))]) (fun x : RdI OpT => [(nu1 0, .cells #[.int .i64 0, .int .i64 0, .int .i64 0, .int .i64 0, .int .i64 0, .bool false, .slice none 0 0, .int .i64 0, .slice none 0 0] 27 (0, 0)), (nu3 0, .cells #[.int .i64 fm, .int .i64 to, .int .i64 sh, .int .i64 sq, .int .i64 ti, .bool be, .slice av k cv, .int .i64 pl, .slice x.a x.k x.c] 27 (0, 0))]) (fun x : RdI OpT => [cObj (nu2 0) (rdC x.s x.b), cAcc (.slice x.a x.k x.c) 52 7 (x.l.map eOp)]) (fun x : RdI OpT => [(.slice av k cv, (D.sl 1 (List.map eI l)))]) (fun x : RdI OpT => (no - x.i).toNat) (fun x : RdI OpT => (0 ≤ x.i ∧ x.i ≤ no ∧ x.s.size ≤ t9.size ∧ (x.l.length : Int) = x.i ∧ rLoop rOp no.toNat (t9.data.toList, b9) = (x.l ++ (rLoop rOp (no - x.i).toNat (x.s.data.toList, x.b)).1, (rLoop rOp (no - x.i).toNat (x.s.data.toList, x.b)).2))) ⟨0, none, 0, 0, t9, b9, []⟩ [2, 3, 6, 7, 8, 11] [0, 1] [0, 1] [0] ?_ (by kernel_rfl) rfl rfl rfl ?_
        · refine ⟨by simp, ho0, by simp, by simp, ?_⟩
          simp only [Int.sub_zero, List.nil_append]
        rintro ⟨j, ao, ko, co, sb, bb, lo⟩ ⟨hj0, hj, hsz2, hll2, hr2⟩
        dsimp only at hj0 hj hsz2 hll2 hr2 ⊢
        refine J_stpx (stp_acclen 1 rfl) fun _ hk2 => ?_
        rw [List.length_map] at hk2
        refine J_show 0 rfl ?_
        refine J_seq ?_
        refine J_seq ?_
        refine Za (Rds 0 4 ++ [.rd 4 [] 2 0, .rd 5 [] 2 0, .rd 6 [] 2 0, .rd 7 [.o 2 none] 2 0, .rd 8 [] 2 0, .rd 9 [] 0 3]) [] [(114, .val (.bool (decide (j < no) && !bb)))] ?_
        refine J_cond (t := decide (j < no) && !bb) (by kernel_rfl) (by kernel_rfl) (fun hc => ?_) (fun hc => ?_)
        · obtain ⟨hlt2, hbb⟩ : j < no ∧ bb = false := by simpa using hc
          refine J_hide 2 rfl ?_
          try simp only [aQ]
          refine J_skip ?_
          try simp only [aQ]
          refine J_seq ?_
          try simp only [aQ]
          refine J_block ?_
          try simp only [aQ]
          refine J_seq ?_
          try simp only [aQ]
          refine Zm [.rd 0 [] 0 0, .wr 1 [] 0, .wr 2 [.o 2 none, .o 2 none, .o 2 none, .o 2 none, .o 2 none, .o 2 none, .o 2 none] 0] [(2, [])] [114] (fun nu4 => [(12, .val (.pointer (some (⟨nu4 0, 0, none⟩))))]) (fun nu4 => [(nu1 0, .cells #[.int .i64 0, .int .i64 0, .int .i64 0, .int .i64 0, .int .i64 0, .bool false, .slice none 0 0, .int .i64 0, .slice none 0 0] 27 (0, 0)), (nu3 0, .cells #[.int .i64 fm, .int .i64 to, .int .i64 sh, .int .i64 sq, .int .i64 ti, .bool be, .slice av k cv, .int .i64 pl, .slice ao ko co] 27 (0, 0)), (nu4 0, .cells #[.int .i64 0, .string (ByteArray.mk #[]), .int .i64 0, .string (ByteArray.mk #[]), .int .i64 0, .bool false, .slice none 0 0] 52 (0, 0))]) (fun nu4 => ?_)
          try simp only [aQ]
          refine J_seq ?_
          try simp only [aQ]
          refine jT [(0, true), (1, false), (2, true), (3, false)] [] ?_
          refine Ya (id := 27) (rest := [(1, false), (2, true), (3, false)]) [.rd 0 [] 0 0] [] [(118, .val (.pointer (some (⟨nu2 0, 0, none⟩))))] ?_
          refine JR_call [] [1] 33 #[.pointer (some (⟨nu2 0, 0, none⟩))] (some 119) (by kernel_rfl) (by kernel_rfl) (by decide) (fun w S M hP hG _ => ?_)
          refine (rNumber (by omega) hP).mono ?_
          rintro e21 w21 ⟨on, t21, b21, h21, hle21, hR⟩
          refine ⟨_, _, _, hR, ?_⟩
          try simp only [aQ]
          refine Ym (id := 27) (rest := []) [.rd 2 [] 0 0, .wr 3 [.o 2 none] 0] [119, 118] (fun _ => []) (fun _ => [(nu1 0, .cells #[.int .i64 0, .int .i64 0, .int .i64 0, .int .i64 0, .int .i64 0, .bool false, .slice none 0 0, .int .i64 0, .slice none 0 0] 27 (0, 0)), (nu3 0, .cells #[.int .i64 fm, .int .i64 to, .int .i64 sh, .int .i64 sq, .int .i64 ti, .bool be, .slice av k cv, .int .i64 pl, .slice ao ko co] 27 (0, 0)), (nu4 0, .cells #[.int .i64 on, .string (ByteArray.mk #[]), .int .i64 0, .string (ByteArray.mk #[]), .int .i64 0, .bool false, .slice none 0 0] 52 (0, 0))]) [] (fun _ => ?_)
          try simp only [aQ]
          refine JR_end ?_
          try simp only [aQ]
          refine J_seq ?_
          try simp only [aQ]
          refine Nm [cAcc (.slice ao ko co) 52 7 (List.map eOp lo), cObj (nu2 0) (.cells #[.string t21, .bool b21] 81 (0, 0))] ?_
          refine jT [(0, true), (1, false), (2, true), (3, false)] [] ?_
          refine Ya (id := 28) (rest := [(1, false), (2, true), (3, false)]) [.rd 0 [] 0 0] [] [(121, .val (.pointer (some (⟨nu2 0, 0, none⟩))))] ?_
          refine JR_call [] [1] 36 #[.pointer (some (⟨nu2 0, 0, none⟩))] (some 122) (by kernel_rfl) (by kernel_rfl) (by decide) (fun w S M hP hG _ => ?_)
          refine (rTextC (by omega) hP).mono ?_
          rintro e22 w22 ⟨okey, t22, b22, h22, hle22, hR⟩
          refine ⟨_, _, _, hR, ?_⟩
          try simp only [aQ]
          refine Ym (id := 28) (rest := []) [.rd 2 [] 0 0, .wr 3 [.o 2 none] 0] [122, 121] (fun _ => []) (fun _ => [(nu1 0, .cells #[.int .i64 0, .int .i64 0, .int .i64 0, .int .i64 0, .int .i64 0, .bool false, .slice none 0 0, .int .i64 0, .slice none 0 0] 27 (0, 0)), (nu3 0, .cells #[.int .i64 fm, .int .i64 to, .int .i64 sh, .int .i64 sq, .int .i64 ti, .bool be, .slice av k cv, .int .i64 pl, .slice ao ko co] 27 (0, 0)), (nu4 0, .cells #[.int .i64 on, .string okey, .int .i64 0, .string (ByteArray.mk #[]), .int .i64 0, .bool false, .slice none 0 0] 52 (0, 0))]) [] (fun _ => ?_)
          try simp only [aQ]
          refine JR_end ?_
          try simp only [aQ]
          refine J_seq ?_
          try simp only [aQ]
          refine Nm [cAcc (.slice ao ko co) 52 7 (List.map eOp lo), cObj (nu2 0) (.cells #[.string t22, .bool b22] 81 (0, 0))] ?_
          refine jT [(0, true), (1, false), (2, true), (3, false)] [] ?_
          refine Ya (id := 29) (rest := [(1, false), (2, true), (3, false)]) [.rd 0 [] 0 0] [] [(124, .val (.pointer (some (⟨nu2 0, 0, none⟩))))] ?_
          refine JR_call [] [1] 33 #[.pointer (some (⟨nu2 0, 0, none⟩))] (some 125) (by kernel_rfl) (by kernel_rfl) (by decide) (fun w S M hP hG _ => ?_)
          refine (rNumber (by omega) hP).mono ?_
          rintro e23 w23 ⟨okind, t23, b23, h23, hle23, hR⟩
          refine ⟨_, _, _, hR, ?_⟩
          try simp only [aQ]
          refine Ym (id := 29) (rest := []) [.rd 2 [] 0 0, .wr 3 [.o 2 none] 0] [125, 124] (fun _ => []) (fun _ => [(nu1 0, .cells #[.int .i64 0, .int .i64 0, .int .i64 0, .int .i64 0, .int .i64 0, .bool false, .slice none 0 0, .int .i64 0, .slice none 0 0] 27 (0, 0)), (nu3 0, .cells #[.int .i64 fm, .int .i64 to, .int .i64 sh, .int .i64 sq, .int .i64 ti, .bool be, .slice av k cv, .int .i64 pl, .slice ao ko co] 27 (0, 0)), (nu4 0, .cells #[.int .i64 on, .string okey, .int .i64 okind, .string (ByteArray.mk #[]), .int .i64 0, .bool false, .slice none 0 0] 52 (0, 0))]) [] (fun _ => ?_)
          try simp only [aQ]
          refine JR_end ?_
          try simp only [aQ]
          refine J_seq ?_
          try simp only [aQ]
          refine Nm [cAcc (.slice ao ko co) 52 7 (List.map eOp lo), cObj (nu2 0) (.cells #[.string t23, .bool b23] 81 (0, 0))] ?_
          refine jT [(0, true), (1, false), (2, true), (3, false)] [] ?_
          refine Ya (id := 30) (rest := [(1, false), (2, true), (3, false)]) [.rd 0 [] 0 0] [] [(127, .val (.pointer (some (⟨nu2 0, 0, none⟩))))] ?_
          refine JR_call [] [1] 36 #[.pointer (some (⟨nu2 0, 0, none⟩))] (some 128) (by kernel_rfl) (by kernel_rfl) (by decide) (fun w S M hP hG _ => ?_)
          refine (rTextC (by omega) hP).mono ?_
          rintro e24 w24 ⟨otext, t24, b24, h24, hle24, hR⟩
          refine ⟨_, _, _, hR, ?_⟩
          try simp only [aQ]
          refine Ym (id := 30) (rest := []) [.rd 2 [] 0 0, .wr 3 [.o 2 none] 0] [128, 127] (fun _ => []) (fun _ => [(nu1 0, .cells #[.int .i64 0, .int .i64 0, .int .i64 0, .int .i64 0, .int .i64 0, .bool false, .slice none 0 0, .int .i64 0, .slice none 0 0] 27 (0, 0)), (nu3 0, .cells #[.int .i64 fm, .int .i64 to, .int .i64 sh, .int .i64 sq, .int .i64 ti, .bool be, .slice av k cv, .int .i64 pl, .slice ao ko co] 27 (0, 0)), (nu4 0, .cells #[.int .i64 on, .string okey, .int .i64 okind, .string otext, .int .i64 0, .bool false, .slice none 0 0] 52 (0, 0))]) [] (fun _ => ?_)
          try simp only [aQ]
          refine JR_end ?_
          try simp only [aQ]
          refine J_seq ?_
          try simp only [aQ]
          refine Nm [cAcc (.slice ao ko co) 52 7 (List.map eOp lo), cObj (nu2 0) (.cells #[.string t24, .bool b24] 81 (0, 0))] ?_
          refine jT [(0, true), (1, false), (2, true), (3, false)] [] ?_
          refine Ya (id := 31) (rest := [(1, false), (2, true), (3, false)]) [.rd 0 [] 0 0] [] [(130, .val (.pointer (some (⟨nu2 0, 0, none⟩))))] ?_
          refine JR_call [] [1] 33 #[.pointer (some (⟨nu2 0, 0, none⟩))] (some 131) (by kernel_rfl) (by kernel_rfl) (by decide) (fun w S M hP hG _ => ?_)
          refine (rNumber (by omega) hP).mono ?_
          rintro e25 w25 ⟨onn, t25, b25, h25, hle25, hR⟩
          refine ⟨_, _, _, hR, ?_⟩
          try simp only [aQ]
          refine Ym (id := 31) (rest := []) [.rd 2 [] 0 0, .wr 3 [.o 2 none] 0] [131, 130] (fun _ => []) (fun _ => [(nu1 0, .cells #[.int .i64 0, .int .i64 0, .int .i64 0, .int .i64 0, .int .i64 0, .bool false, .slice none 0 0, .int .i64 0, .slice none 0 0] 27 (0, 0)), (nu3 0, .cells #[.int .i64 fm, .int .i64 to, .int .i64 sh, .int .i64 sq, .int .i64 ti, .bool be, .slice av k cv, .int .i64 pl, .slice ao ko co] 27 (0, 0)), (nu4 0, .cells #[.int .i64 on, .string okey, .int .i64 okind, .string otext, .int .i64 onn, .bool false, .slice none 0 0] 52 (0, 0))]) [] (fun _ => ?_)
          try simp only [aQ]
          refine JR_end ?_
          try simp only [aQ]
          refine J_seq ?_
          try simp only [aQ]
          refine Nm [cAcc (.slice ao ko co) 52 7 (List.map eOp lo), cObj (nu2 0) (.cells #[.string t25, .bool b25] 81 (0, 0))] ?_
          refine jT [(0, true), (1, false), (2, true), (3, false)] [] ?_
          refine Ya (id := 32) (rest := [(1, false), (2, true), (3, false)]) [.rd 0 [] 0 0] [] [(133, .val (.pointer (some (⟨nu2 0, 0, none⟩))))] ?_
          refine JR_call [] [1] 34 #[.pointer (some (⟨nu2 0, 0, none⟩))] (some 134) (by kernel_rfl) (by kernel_rfl) (by decide) (fun w S M hP hG _ => ?_)
          refine (rFlagC (by omega) hP).mono ?_
          rintro e26 w26 ⟨orem, t26, b26, h26, hle26, hR⟩
          refine ⟨_, _, _, hR, ?_⟩
          try simp only [aQ]
          refine Ym (id := 32) (rest := []) [.rd 2 [] 0 0, .wr 3 [.o 2 none] 0] [134, 133] (fun _ => []) (fun _ => [(nu1 0, .cells #[.int .i64 0, .int .i64 0, .int .i64 0, .int .i64 0, .int .i64 0, .bool false, .slice none 0 0, .int .i64 0, .slice none 0 0] 27 (0, 0)), (nu3 0, .cells #[.int .i64 fm, .int .i64 to, .int .i64 sh, .int .i64 sq, .int .i64 ti, .bool be, .slice av k cv, .int .i64 pl, .slice ao ko co] 27 (0, 0)), (nu4 0, .cells #[.int .i64 on, .string okey, .int .i64 okind, .string otext, .int .i64 onn, .bool orem, .slice none 0 0] 52 (0, 0))]) [] (fun _ => ?_)
          try simp only [aQ]
          refine JR_end ?_
          try simp only [aQ]
          refine J_seq ?_
          try simp only [aQ]
          refine Nm [cAcc (.slice ao ko co) 52 7 (List.map eOp lo), cObj (nu2 0) (.cells #[.string t26, .bool b26] 81 (0, 0))] ?_
          refine jT [(0, true), (1, false), (2, true)] [] ?_
          refine Ya (id := 33) (rest := [(1, false), (2, true)]) [.rd 0 [] 0 0] [] [(136, .val (.pointer (some (⟨nu2 0, 0, none⟩))))] ?_
          refine JR_call [] [1] 35 #[.pointer (some (⟨nu2 0, 0, none⟩))] (some 137) (by kernel_rfl) (by kernel_rfl) (by decide) (fun w S M hP hG _ => ?_)
          refine (rManyC (by omega) hP).mono ?_
          rintro e27 w27 ⟨nd, t27, b27, h27, hd0, hd1, hle27, hR⟩
          refine ⟨_, _, _, hR, ?_⟩
          try simp only [aQ]
          refine Ya (id := 33) (rest := []) [.rd 2 [] 0 0] [137, 136] [(13, .val (.int .i64 nd))] ?_
          try simp only [aQ]
          refine JR_end ?_
          try simp only [aQ]
          refine J_seq ?_
          try simp only [aQ]
          refine J_seq ?_
          try simp only [aQ]
          refine Nm [cAcc (.slice ao ko co) 52 7 (List.map eOp lo), cObj (nu2 0) (.cells #[.string t27, .bool b27] 81 (0, 0))] ?_
          refine J_stp (stp_accm eDot 61 3) ?_
          try simp only [aQ]
          refine Za [.rd 0 [] 0 0] [] [(14, .val (.int .i64 0))] ?_
          refine J_block ?_
          refine J_loopx (fun y : RdI DotT => [(2, .val (.pointer (some (⟨nu1 0, 0, none⟩)))), (3, .val (.int .i64 0)), (6, .val (.pointer (some (⟨nu2 0, 0, none⟩)))), (7, .val (.pointer (some (⟨nu3 0, 0, none⟩)))), (8, .val (.int .i64 no)), (11, .val (.int .i64 j)), (12, .val (.pointer (some (⟨nu4 0, 0, none⟩)))), (13, .val (.int .i64 nd)), (14, .val (.int .i64 y.i))]) (fun y : RdI DotT => [(nu1 0, .cells #[.int .i64 0, .int .i64 0, .int .i64 0, .int .i64 0, .int .i64 0, .bool false, .slice none 0 0, .int .i64 0, .slice none 0 0] 27 (0, 0)), (nu3 0, .cells #[.int .i64 fm, .int .i64 to, .int .i64 sh, .int .i64 sq, .int .i64 ti, .bool be, .slice av k cv, .int .i64 pl, .slice ao ko co] 27 (0, 0)), (nu4 0, .cells #[.int .i64 on, .string okey, .int .i64 okind, .string otext, .int .i64 onn, .bool orem, .slice y.a y.k y.c] 52 (0, 0))]) (fun y : RdI DotT => [cAcc (.slice ao ko co) 52 7 (lo.map eOp), cObj (nu2 0) (rdC y.s y.b), cAcc (.slice y.a y.k y.c) 61 3 (y.l.map eDot)]) (fun y : RdI DotT => [(.slice av k cv, (D.sl 1 (List.map eI l)))]) (fun y : RdI DotT => (nd - y.i).toNat) (fun y : RdI DotT => (0 ≤ y.i ∧ y.i ≤ nd ∧ y.s.size ≤ t27.size ∧ (y.l.length : Int) = y.i ∧ rLoop rDot nd.toNat (t27.data.toList, b27) = (y.l ++ (rLoop rDot (nd - y.i).toNat (y.s.data.toList, y.b)).1, (rLoop rDot (nd - y.i).toNat (y.s.data.toList, y.b)).2))) ⟨0, none, 0, 0, t27, b27, []⟩ [2, 3, 6, 7, 8, 11, 12, 13, 14] [0, 1, 2] [0, 1, 2] [0] ?_ (by kernel_rfl) rfl rfl rfl ?_
          · refine ⟨by simp, hd0, by simp, by simp, ?_⟩
            simp only [Int.sub_zero, List.nil_append]
          rintro ⟨q, ad, kd, cd, sd, bd, ld⟩ ⟨hq0, hq, hsz3, hll3, hr3⟩
          dsimp only at hq0 hq hsz3 hll3 hr3 ⊢
          refine J_stpx (stp_acclen 2 rfl) fun _ hk3 => ?_
          rw [List.length_map] at hk3
          refine J_show 1 rfl ?_
          refine J_seq ?_
          refine J_seq ?_
          refine Za (Rds 0 4 ++ [.rd 4 [] 2 0, .rd 5 [] 2 0, .rd 6 [] 2 0, .rd 7 [.o 3 none] 2 0, .rd 8 [] 2 0, .rd 9 [] 0 3]) [] [(147, .val (.bool (decide (q < nd) && !bd)))] ?_
          refine J_cond (t := decide (q < nd) && !bd) (by kernel_rfl) (by kernel_rfl) (fun hc3 => ?_) (fun hc3 => ?_)
          · obtain ⟨hlt3, hbd⟩ : q < nd ∧ bd = false := by simpa using hc3
            refine J_hide 3 rfl ?_
            try simp only [aQ]
            refine J_skip ?_
            try simp only [aQ]
            refine J_seq ?_
            try simp only [aQ]
            refine J_block ?_
            try simp only [aQ]
            refine J_seq ?_
            try simp only [aQ]
            refine Zm [.rd 0 [] 0 0, .wr 1 [] 0, .wr 2 [.o 3 none, .o 3 none, .o 3 none] 0] [(2, [])] [147] (fun nu5 => [(15, .val (.pointer (some (⟨nu5 0, 0, none⟩))))]) (fun nu5 => [(nu1 0, .cells #[.int .i64 0, .int .i64 0, .int .i64 0, .int .i64 0, .int .i64 0, .bool false, .slice none 0 0, .int .i64 0, .slice none 0 0] 27 (0, 0)), (nu3 0, .cells #[.int .i64 fm, .int .i64 to, .int .i64 sh, .int .i64 sq, .int .i64 ti, .bool be, .slice av k cv, .int .i64 pl, .slice ao ko co] 27 (0, 0)), (nu4 0, .cells #[.int .i64 on, .string okey, .int .i64 okind, .string otext, .int .i64 onn, .bool orem, .slice ad kd cd] 52 (0, 0)), (nu5 0, .cells #[.int .i64 0, .int .i64 0, .int .i64 0] 61 (0, 0))]) (fun nu5 => ?_)
            try simp only [aQ]
            refine J_seq ?_
            try simp only [aQ]
            refine jT [(0, true), (1, false), (2, true), (3, false)] [] ?_
            refine Ya (id := 38) (rest := [(1, false), (2, true), (3, false)]) [.rd 0 [] 0 0] [] [(151, .val (.pointer (some (⟨nu2 0, 0, none⟩))))] ?_
            refine JR_call [] [2] 33 #[.pointer (some (⟨nu2 0, 0, none⟩))] (some 152) (by kernel_rfl) (by kernel_rfl) (by decide) (fun w S M hP hG _ => ?_)
            refine (rNumber (by omega) hP).mono ?_
            rintro e28 w28 ⟨d1, t31, b31, h31, hle31, hR⟩
            refine ⟨_, _, _, hR, ?_⟩
            try simp only [aQ]
            refine Ym (id := 38) (rest := []) [.rd 2 [] 0 0, .wr 3 [.o 3 none] 0] [152, 151] (fun _ => []) (fun _ => [(nu1 0, .cells #[.int .i64 0, .int .i64 0, .int .i64 0, .int .i64 0, .int .i64 0, .bool false, .slice none 0 0, .int .i64 0, .slice none 0 0] 27 (0, 0)), (nu3 0, .cells #[.int .i64 fm, .int .i64 to, .int .i64 sh, .int .i64 sq, .int .i64 ti, .bool be, .slice av k cv, .int .i64 pl, .slice ao ko co] 27 (0, 0)), (nu4 0, .cells #[.int .i64 on, .string okey, .int .i64 okind, .string otext, .int .i64 onn, .bool orem, .slice ad kd cd] 52 (0, 0)), (nu5 0, .cells #[.int .i64 d1, .int .i64 0, .int .i64 0] 61 (0, 0))]) [] (fun _ => ?_)
            try simp only [aQ]
            refine JR_end ?_
            try simp only [aQ]
            refine J_seq ?_
            try simp only [aQ]
            refine Nm [cAcc (.slice ao ko co) 52 7 (List.map eOp lo), cAcc (.slice ad kd cd) 61 3 (List.map eDot ld), cObj (nu2 0) (.cells #[.string t31, .bool b31] 81 (0, 0))] ?_
            refine jT [(0, true), (1, false), (2, true), (3, false)] [] ?_
            refine Ya (id := 39) (rest := [(1, false), (2, true), (3, false)]) [.rd 0 [] 0 0] [] [(154, .val (.pointer (some (⟨nu2 0, 0, none⟩))))] ?_
            refine JR_call [] [2] 33 #[.pointer (some (⟨nu2 0, 0, none⟩))] (some 155) (by kernel_rfl) (by kernel_rfl) (by decide) (fun w S M hP hG _ => ?_)
            refine (rNumber (by omega) hP).mono ?_
            rintro e29 w29 ⟨d2, t32, b32, h32, hle32, hR⟩
            refine ⟨_, _, _, hR, ?_⟩
            try simp only [aQ]
            refine Ym (id := 39) (rest := []) [.rd 2 [] 0 0, .wr 3 [.o 3 none] 0] [155, 154] (fun _ => []) (fun _ => [(nu1 0, .cells #[.int .i64 0, .int .i64 0, .int .i64 0, .int .i64 0, .int .i64 0, .bool false, .slice none 0 0, .int .i64 0, .slice none 0 0] 27 (0, 0)), (nu3 0, .cells #[.int .i64 fm, .int .i64 to, .int .i64 sh, .int .i64 sq, .int .i64 ti, .bool be, .slice av k cv, .int .i64 pl, .slice ao ko co] 27 (0, 0)), (nu4 0, .cells #[.int .i64 on, .string okey, .int .i64 okind, .string otext, .int .i64 onn, .bool orem, .slice ad kd cd] 52 (0, 0)), (nu5 0, .cells #[.int .i64 d1, .int .i64 d2, .int .i64 0] 61 (0, 0))]) [] (fun _ => ?_)
            try simp only [aQ]
            refine JR_end ?_
            try simp only [aQ]
            refine J_seq ?_
            try simp only [aQ]
            refine Nm [cAcc (.slice ao ko co) 52 7 (List.map eOp lo), cAcc (.slice ad kd cd) 61 3 (List.map eDot ld), cObj (nu2 0) (.cells #[.string t32, .bool b32] 81 (0, 0))] ?_
            refine jT [(0, true), (1, false), (2, true), (3, false)] [] ?_
            refine Ya (id := 40) (rest := [(1, false), (2, true), (3, false)]) [.rd 0 [] 0 0] [] [(157, .val (.pointer (some (⟨nu2 0, 0, none⟩))))] ?_
            refine JR_call [] [2] 33 #[.pointer (some (⟨nu2 0, 0, none⟩))] (some 158) (by kernel_rfl) (by kernel_rfl) (by decide) (fun w S M hP hG _ => ?_)
            refine (rNumber (by omega) hP).mono ?_
            rintro e30 w30 ⟨d3, t33, b33, h33, hle33, hR⟩
            refine ⟨_, _, _, hR, ?_⟩
            try simp only [aQ]
            refine Ym (id := 40) (rest := []) [.rd 2 [] 0 0, .wr 3 [.o 3 none] 0] [158, 157] (fun _ => []) (fun _ => [(nu1 0, .cells #[.int .i64 0, .int .i64 0, .int .i64 0, .int .i64 0, .int .i64 0, .bool false, .slice none 0 0, .int .i64 0, .slice none 0 0] 27 (0, 0)), (nu3 0, .cells #[.int .i64 fm, .int .i64 to, .int .i64 sh, .int .i64 sq, .int .i64 ti, .bool be, .slice av k cv, .int .i64 pl, .slice ao ko co] 27 (0, 0)), (nu4 0, .cells #[.int .i64 on, .string okey, .int .i64 okind, .string otext, .int .i64 onn, .bool orem, .slice ad kd cd] 52 (0, 0)), (nu5 0, .cells #[.int .i64 d1, .int .i64 d2, .int .i64 d3] 61 (0, 0))]) [] (fun _ => ?_)
            try simp only [aQ]
            refine JR_end ?_
            try simp only [aQ]
            refine Nm [cAcc (.slice ao ko co) 52 7 (List.map eOp lo), cAcc (.slice ad kd cd) 61 3 (List.map eDot ld), cObj (nu2 0) (.cells #[.string t33, .bool b33] 81 (0, 0))] ?_
            refine jT [(0, true), (1, true), (2, true), (3, false), (4, false), (5, true), (6, false)] [] ?_
            refine Ym (id := 41) (rest := [(4, false), (5, true), (6, false)]) [.rd 0 [] 0 0, .rd 1 [.o 2 none] 0 0, .rd 2 [.o 3 none, .o 3 none, .o 3 none] 0 0, .wr 3 [] 0] [] (fun nu6 => [(161, .val (.slice ad kd cd)), (163, .val (.slice (some (⟨nu6 0, 0, none⟩)) 1 1))]) (fun nu6 => [(nu1 0, .cells #[.int .i64 0, .int .i64 0, .int .i64 0, .int .i64 0, .int .i64 0, .bool false, .slice none 0 0, .int .i64 0, .slice none 0 0] 27 (0, 0)), (nu3 0, .cells #[.int .i64 fm, .int .i64 to, .int .i64 sh, .int .i64 sq, .int .i64 ti, .bool be, .slice av k cv, .int .i64 pl, .slice ao ko co] 27 (0, 0)), (nu4 0, .cells #[.int .i64 on, .string okey, .int .i64 okind, .string otext, .int .i64 onn, .bool orem, .slice ad kd cd] 52 (0, 0)), (nu5 0, .cells #[.int .i64 d1, .int .i64 d2, .int .i64 d3] 61 (0, 0)), (nu6 0, .cells #[.int .i64 d1, .int .i64 d2, .int .i64 d3] 61 (0, 0))]) [] (fun nu6 => ?_)
            refine JR_appm 1 50 61 3 24 (.agg #[.int .i64 0, .int .i64 0, .int .i64 0]) (a0 := ad) (len := kd) (cap0 := cd) (ax := (some (⟨nu6 0, 0, none⟩))) (m := 1) (c := 1) (dst := (some 164)) [(⟨d1, d2, d3⟩ : DotT)] (by kernel_rfl) (by kernel_rfl) (by kernel_rfl) (by kernel_rfl) rfl (by decide) rfl (fun _ _ _ s => src_one s 4 rfl rfl ⟨.inl ⟨rfl, rfl⟩, ⟨.inl ⟨rfl, rfl⟩, ⟨.inl ⟨rfl, rfl⟩, trivial⟩⟩⟩) (by simp only [maxLen]; omega) (by omega) (fun av1 cv1 => ?_)
            try simp only [aQ]
            refine Ym (id := 41) (rest := []) [.rd 5 [] 0 0, .wr 6 [.o 2 none] 0] [164, 161, 163] (fun _ => []) (fun _ => [(nu1 0, .cells #[.int .i64 0, .int .i64 0, .int .i64 0, .int .i64 0, .int .i64 0, .bool false, .slice none 0 0, .int .i64 0, .slice none 0 0] 27 (0, 0)), (nu3 0, .cells #[.int .i64 fm, .int .i64 to, .int .i64 sh, .int .i64 sq, .int .i64 ti, .bool be, .slice av k cv, .int .i64 pl, .slice ao ko co] 27 (0, 0)), (nu4 0, .cells #[.int .i64 on, .string okey, .int .i64 okind, .string otext, .int .i64 onn, .bool orem, .slice av1 (kd + 1) cv1] 52 (0, 0)), (nu5 0, .cells #[.int .i64 d1, .int .i64 d2, .int .i64 d3] 61 (0, 0)), (nu6 0, .cells #[.int .i64 d1, .int .i64 d2, .int .i64 d3] 61 (0, 0))]) [] (fun _ => ?_)
            try simp only [aQ]
            refine JR_end ?_
            try simp only [aQ]
            refine J_eb ?_
            try simp only [aQ]
            refine Zp [.rd 0 [] 0 0, .rd 1 [] 0 1, .rd 2 [] 0 0] [] [(14, .val (.int .i64 (q + 1)))] [IntKind.i64.wrap (q + (1 : Int)) = q + (1 : Int)] ⟨wrap_i64 (by omega) (by omega), trivial⟩ ?_
            try simp only [aQ]
            have hdd : rDot (sd.data.toList, bd) = (⟨d1, d2, d3⟩, (t33.data.toList, b33)) := by
              simp only [rDot, andS, h31, h32, h33]
            refine J_backx ⟨q + 1, av1, kd + 1, cv1, t33, b33, ld ++ [⟨d1, d2, d3⟩]⟩ [2, 3, 6, 7, 8, 11, 12, 13, 14] [0, 1, 2] [0, 1, 2] [0] ?_ ?_ (by kernel_rfl) rfl rfl rfl
            · refine ⟨by simp only; omega, by simp only; omega, by simp only; omega, by simp; omega, ?_⟩
              simp only
              rw [hr3, rLoop_step hlt3 hq0 hbd hdd]
              simp
            · simp only
              omega
          · have hend3 : rLoop rDot nd.toNat (t27.data.toList, b27) = (ld, (sd.data.toList, bd)) := by
              rw [hr3]
              have hc2 : nd ≤ q ∨ bd = true := by
                cases bd with
                | true => exact .inr rfl
                | false =>
                  simp at hc3
                  exact .inl hc3
              rcases hc2 with h | h
              · obtain rfl : q = nd := by omega
                rw [Int.sub_self]
                simp [rLoop]
              · rw [rLoop_stop _ h]
                simp
            have hds : rL rDot (t26.data.toList, b26) = (ld, (sd.data.toList, bd)) := by
              simp only [rL, h27]
              exact hend3
            have hop : rOp (sb.data.toList, bb) = (⟨on, okey, okind, otext, onn, orem, ld⟩, (sd.data.toList, bd)) := by
              simp only [rOp, andS, h21, h22, h23, h24, h25, h26, hds]
            refine J_hide 3 rfl ?_
            refine J_stp (stp_freeze 1 rfl) ?_
            try simp only [aQ]
            refine J_exit rfl ?_
            refine Nm [cAcc (.slice ao ko co) 52 7 (List.map eOp lo), cObj (nu2 0) (.cells #[.string sd, .bool bd] 81 (0, 0))] ?_
            refine jT [(0, true), (1, true), (2, true), (3, true), (4, false), (5, false), (6, true), (7, true), (8, false)] [] ?_
            refine Ym (id := 42) (rest := [(5, false), (6, true), (7, true), (8, false)]) [.rd 0 [] 0 0, .rd 1 [] 0 0, .rd 2 [.o 1 none] 0 0, .rd 3 [.o 2 none, .o 2 none, .o 2 none, .o 2 none, .o 2 none, .o 2 none, .o 2 none] 0 0, .wr 4 [] 0] [147] (fun nu5 => [(168, .val (.slice ao ko co)), (170, .val (.slice (some (⟨nu5 0, 0, none⟩)) 1 1))]) (fun nu5 => [(nu1 0, .cells #[.int .i64 0, .int .i64 0, .int .i64 0, .int .i64 0, .int .i64 0, .bool false, .slice none 0 0, .int .i64 0, .slice none 0 0] 27 (0, 0)), (nu3 0, .cells #[.int .i64 fm, .int .i64 to, .int .i64 sh, .int .i64 sq, .int .i64 ti, .bool be, .slice av k cv, .int .i64 pl, .slice ao ko co] 27 (0, 0)), (nu4 0, .cells #[.int .i64 on, .string okey, .int .i64 okind, .string otext, .int .i64 onn, .bool orem, .slice ad kd cd] 52 (0, 0)), (nu5 0, .cells #[.int .i64 on, .string okey, .int .i64 okind, .string otext, .int .i64 onn, .bool orem, .slice ad kd cd] 52 (0, 0))]) [] (fun nu5 => ?_)
            refine JR_appm 0 23 52 7 88 (.agg #[.int .i64 0, .string (ByteArray.mk #[]), .int .i64 0, .string (ByteArray.mk #[]), .int .i64 0, .bool false, .slice none 0 0]) (a0 := ao) (len := ko) (cap0 := co) (ax := (some (⟨nu5 0, 0, none⟩))) (m := 1) (c := 1) (dst := (some 171)) [(⟨on, okey, okind, otext, onn, orem, ld⟩ : OpT)] (by kernel_rfl) (by kernel_rfl) (by kernel_rfl) (by kernel_rfl) rfl (by decide) rfl (fun _ _ _ s => src_one s 3 rfl rfl ⟨.inl ⟨rfl, rfl⟩, ⟨.inl ⟨rfl, rfl⟩, ⟨.inl ⟨rfl, rfl⟩, ⟨.inl ⟨rfl, rfl⟩, ⟨.inl ⟨rfl, rfl⟩, ⟨.inl ⟨rfl, rfl⟩, ⟨.inr (.inl (List.mem_of_getElem? (i := 1) rfl)), trivial⟩⟩⟩⟩⟩⟩⟩) (by simp only [maxLen]; omega) (by omega) (fun av1 cv1 => ?_)
            try simp only [aQ]
            refine Ym (id := 42) (rest := []) [.rd 6 [] 0 0, .rd 7 [] 0 0, .wr 8 [.o 1 none] 0] [171, 168, 170] (fun _ => []) (fun _ => [(nu1 0, .cells #[.int .i64 0, .int .i64 0, .int .i64 0, .int .i64 0, .int .i64 0, .bool false, .slice none 0 0, .int .i64 0, .slice none 0 0] 27 (0, 0)), (nu3 0, .cells #[.int .i64 fm, .int .i64 to, .int .i64 sh, .int .i64 sq, .int .i64 ti, .bool be, .slice av k cv, .int .i64 pl, .slice av1 (ko + 1) cv1] 27 (0, 0)), (nu4 0, .cells #[.int .i64 on, .string okey, .int .i64 okind, .string otext, .int .i64 onn, .bool orem, .slice ad kd cd] 52 (0, 0)), (nu5 0, .cells #[.int .i64 on, .string okey, .int .i64 okind, .string otext, .int .i64 onn, .bool orem, .slice ad kd cd] 52 (0, 0))]) [] (fun _ => ?_)
            try simp only [aQ]
            refine JR_end ?_
            try simp only [aQ]
            refine J_eb ?_
            try simp only [aQ]
            refine Zp [.rd 0 [] 0 0, .rd 1 [] 0 1, .rd 2 [] 0 0] [] [(11, .val (.int .i64 (j + 1)))] [IntKind.i64.wrap (j + (1 : Int)) = j + (1 : Int)] ⟨wrap_i64 (by omega) (by omega), trivial⟩ ?_
            try simp only [aQ]
            refine J_backx ⟨j + 1, av1, ko + 1, cv1, sd, bd, lo ++ [⟨on, okey, okind, otext, onn, orem, ld⟩]⟩ [2, 3, 6, 7, 8, 11] [0, 1] [0, 1] [0] ?_ ?_ (by kernel_rfl) rfl rfl rfl
            · refine ⟨by simp only; omega, by simp only; omega, by simp only; omega, by simp; omega, ?_⟩
              simp only
              rw [hr2, rLoop_step hlt2 hj0 hbb hop]
              simp
            · simp only
              omega
        · have hend2 : rLoop rOp no.toNat (t9.data.toList, b9) = (lo, (sb.data.toList, bb)) := by
            rw [hr2]
            have hc2 : no ≤ j ∨ bb = true := by
              cases bb with
              | true => exact .inr rfl
              | false =>
                simp at hc
                exact .inl hc
            rcases hc2 with h | h
            · obtain rfl : j = no := by omega
              rw [Int.sub_self]
              simp [rLoop]
            · rw [rLoop_stop _ h]
              simp
          have hos : rL rOp (t8.data.toList, b8) = (lo, (sb.data.toList, bb)) := by
            simp only [rL, h9]
            exact hend2
          have hM : rMsg (t0.data.toList, false) = (⟨fm, to, sh, sq, ti, be, ⟨l, pl, lo⟩⟩, (sb.data.toList, bb)) := by
            simp only [rMsg, andS, h1, h2, h3, h4, h5, h6, hw, h8, hos]
          refine J_stp (stp_freeze 0 rfl) ?_
          try simp only [aQ]
          refine J_exit rfl ?_
          refine J_seq ?_
          refine J_seq ?_
          refine Za (Rds 0 3 ++ [.rd 3 [.o 2 none] 0 0, .rd 4 [] 0 0, .rd 5 [] 2 0, .rd 6 [] 2 0, .rd 7 [] 2 0, .rd 8 [.o 2 none] 2 0, .rd 9 [] 2 0, .rd 10 [] 0 3]) [114, 6, 8, 11] [(184, .val (.bool (bb || !sb.toList == (ByteArray.mk #[]).toList)))] ?_
          refine J_cond (t := bb || !sb.toList == (ByteArray.mk #[]).toList) (by kernel_rfl) (by kernel_rfl) (fun hf => ?_) (fun hf => ?_)
          · refine J_seq ?_
            refine Zm [.rd 0 [] 0 0, .wr 1 [.o 0 none, .o 0 none, .o 0 none, .o 0 none, .o 0 none, .o 0 none, .o 0 none, .o 0 none, .o 0 none] 0, .rd 2 [] 0 0] [(1, [0])] [184] (fun _ => [(3, .val (.int .i64 1))]) (fun _ => [(nu1 0, .cells #[.int .i64 0, .int .i64 0, .int .i64 0, .int .i64 0, .int .i64 0, .bool false, .slice none 0 0, .int .i64 0, .slice none 0 0] 27 (0, 0)), (nu3 0, .cells #[.int .i64 fm, .int .i64 to, .int .i64 sh, .int .i64 sq, .int .i64 ti, .bool be, .slice av k cv, .int .i64 pl, .slice ao ko co] 27 (0, 0)), (nu2 0, .cells #[.string sb, .bool bb] 81 (0, 0))]) (fun _ => ?_)
            refine Yr [[.o 0 none, .o 0 none, .o 0 none, .o 0 none, .o 0 none, .o 0 none, .o 0 none, .o 0 none, .o 0 none], []] (.tuple #[.agg #[.int .i64 0, .int .i64 0, .int .i64 0, .int .i64 0, .int .i64 0, .bool false, .slice none 0 0, .int .i64 0, .slice none 0 0], .int .i64 1]) fun a w s => ?_
            refine ⟨zeroM, 1, none, 0, 0, none, 0, 0, ?_, zret s⟩
            rw [hdec, hM, if_pos]
            rw [ByteArray.toList_eq, ByteArray.toList_eq] at hf
            simpa using hf
          · refine J_skip ?_
            refine J_seq ?_
            refine Zm [.rd 0 [.o 1 none, .o 1 none, .o 1 none, .o 1 none, .o 1 none, .o 1 none, .o 1 none, .o 1 none, .o 1 none] 0 0, .wr 1 [.o 0 none, .o 0 none, .o 0 none, .o 0 none, .o 0 none, .o 0 none, .o 0 none, .o 0 none, .o 0 none] 0, .rd 2 [] 0 0] [(1, [0])] [184, 7] (fun _ => []) (fun _ => [(nu1 0, .cells #[.int .i64 fm, .int .i64 to, .int .i64 sh, .int .i64 sq, .int .i64 ti, .bool be, .slice av k cv, .int .i64 pl, .slice ao ko co] 27 (0, 0)), (nu3 0, .cells #[.int .i64 fm, .int .i64 to, .int .i64 sh, .int .i64 sq, .int .i64 ti, .bool be, .slice av k cv, .int .i64 pl, .slice ao ko co] 27 (0, 0)), (nu2 0, .cells #[.string sb, .bool bb] 81 (0, 0))]) (fun _ => ?_)
            refine Yr [[.o 0 none, .o 0 none, .o 0 none, .o 0 none, .o 0 none, .o 0 none, .o 0 none, .o 0 none, .o 0 none], []] (.tuple #[.agg #[.int .i64 fm, .int .i64 to, .int .i64 sh, .int .i64 sq, .int .i64 ti, .bool be, .slice av k cv, .int .i64 pl, .slice ao ko co], .int .i64 0]) fun a w s => ?_
            refine ⟨⟨fm, to, sh, sq, ti, be, ⟨l, pl, lo⟩⟩, 0, _, _, _, _, _, _, ?_, s.ret (by simp) [] [0, 1] rfl rfl⟩
            rw [hdec, hM, if_neg]
            rw [ByteArray.toList_eq, ByteArray.toList_eq] at hf
            simpa using hf
end Go.Proofs.YtonhcoeneahpaaaDoor
end
section
namespace Go.Proofs.YtonhcoeneahpaaaDoor
open Go Go.Sx
set_option maxHeartbeats 4000000 in
theorem sameInts {w : World} {S : Nat → Prop} {a b : Option Addr} {n m c d : Nat} {xs ys : List Int} (ha : Rep w S (.slice a n c) (dInts xs)) (hb : Rep w S (.slice b m d) (dInts ys)) (hm : xs.length ≤ 1000000) :
    Calls Tryd.prog 40 #[.slice a n c, .slice b m d] w fun e w' => Ret [] w S w' e (.bool (decide (xs = ys))) [] [] := by
  obtain rfl := rep_ints_len ha
  obtain rfl := rep_ints_len hb
  refine ep40 (args := [.slice a xs.length c, .slice b ys.length d]) (G := [(_, dInts xs), (_, dInts ys)]) (by kernel_rfl) (.cons ha (.cons hb (.nil _ _))) ?_
  refine J_seq ?_
  refine Za [.rd 0 [] 0 0] [] [(4, .val (.bool false))] ?_
  refine J_seq ?_
  refine J_seq ?_
  refine Za (Rds 0 5) [] [(10, .val (.bool ((↑xs.length : Int) != (↑ys.length : Int))))] ?_
  refine J_cond (t := (↑xs.length : Int) != (↑ys.length : Int)) (by kernel_rfl) (by kernel_rfl) (fun h => ?_) (fun h => ?_)
  · refine J_seq ?_
    refine Za [.rd 0 [] 0 0] [10] [] ?_
    refine Yr [[]] (.bool false) fun a w s => ?_
    have e : decide (xs = ys) = false := by
      simp only [decide_eq_false_iff_not]
      rintro rfl
      simp at h
    rw [e]
    exact s.ret (by simp) [] [] rfl rfl
  · have hl : xs.length = ys.length := by simp at h; omega
    refine J_skip ?_
    refine J_seq ?_
    refine J_seq ?_
    refine Za [.rd 0 [] 0 0] [10] [(5, .val (.int .i64 0))] ?_
    refine J_block ?_
    refine J_loopx (fun i : Int => [(0, .val (.slice a xs.length c)), (1, .val (.slice b ys.length d)), (4, .val (.bool false)), (5, .val (.int .i64 i))]) (fun i : Int => []) (fun i : Int => []) (fun i : Int => [(.slice a xs.length c, (dInts xs)), (.slice b ys.length d, (dInts ys))]) (fun i : Int => (xs.length - i).toNat) (fun i : Int => (0 ≤ i ∧ i ≤ xs.length ∧ ∀ j : Nat, j < i.toNat → xs[j]? = ys[j]?)) 0 [0, 1, 4, 5] [] [] [0, 1] ?_ (by kernel_rfl) rfl rfl rfl ?_
    · exact ⟨by simp, by omega, by simp⟩
    rintro i ⟨hi0, hi, hsame⟩
    refine J_seq ?_
    refine J_seq ?_
    refine Za (Rds 0 4) [] [(14, .val (.bool (decide (i < (↑xs.length : Int)))))] ?_
    refine J_cond (t := decide (i < (↑xs.length : Int))) (by kernel_rfl) (by kernel_rfl) (fun hlt => ?_) (fun hlt => ?_)
    · have hlt2 : i < xs.length := by simpa using hlt
      obtain ⟨x, hx⟩ : ∃ x, xs[i.toNat]? = some x := ⟨_, List.getElem?_eq_getElem (by omega)⟩
      obtain ⟨y, hy⟩ : ∃ y, ys[i.toNat]? = some y := ⟨_, List.getElem?_eq_getElem (by omega)⟩
      refine J_read0 0 rfl i.toNat (map_at hx) (by kernel_rfl) (fun b1 off1 cs1 ty1 fz1 ha1 hrd1 => ?_)
      cases ha1
      have hrd1_0 := rd0 (hrd1 0 _ rfl)
      refine J_read0 1 rfl i.toNat (map_at hy) (by kernel_rfl) (fun b2 off2 cs2 ty2 fz2 ha2 hrd2 => ?_)
      cases ha2
      have hrd2_0 := rd0 (hrd2 0 _ rfl)
      try simp only [aQ]
      refine J_skip ?_
      refine J_seq ?_
      refine J_block ?_
      refine J_seq ?_
      refine Zp [.rd 0 [] 0 0, .rd 1 [] 0 0, .rd 2 [] 0 2, .rd 3 [.r 0 (some (.int .i64 x))] 0 0, .rd 4 [] 0 0, .rd 5 [] 0 0, .rd 6 [] 0 2, .rd 7 [.r 1 (some (.int .i64 y))] 0 0, .rd 8 [] 0 0] [14] [(25, .val (.bool (x != y)))] [(0 : Int) ≤ i, i < (↑xs.length : Int), cs1[off1 + i.toNat * (1 : Nat)]? = some (Value.int IntKind.i64 x), (0 : Int) ≤ i, i < (↑ys.length : Int), cs2[off2 + i.toNat * (1 : Nat)]? = some (Value.int IntKind.i64 y)] ⟨hi0, hlt2, hrd1_0, hi0, by omega, hrd2_0, trivial⟩ ?_
      refine J_cond (t := x != y) (by kernel_rfl) (by kernel_rfl) (fun hne => ?_) (fun hne => ?_)
      · refine J_seq ?_
        refine Za [.rd 0 [] 0 0] [25] [] ?_
        refine Yr [[]] (.bool false) fun a w s => ?_
        have e : decide (xs = ys) = false := by
          simp only [decide_eq_false_iff_not]
          rintro rfl
          rw [hx] at hy
          cases hy
          simp at hne
        rw [e]
        exact s.ret (by simp) [] [] rfl rfl
      · refine J_skip ?_
        refine J_eb ?_
        refine Zp [.rd 0 [] 0 0, .rd 1 [] 0 1, .rd 2 [] 0 0] [25] [(5, .val (.int .i64 (i + 1)))] [IntKind.i64.wrap (i + (1 : Int)) = i + (1 : Int)] ⟨wrap_i64 (by omega) (by omega), trivial⟩ ?_
        refine J_backx (i + 1) [0, 1, 4, 5] [] [] [0, 1] ?_ ?_ (by kernel_rfl) rfl rfl rfl
        · refine ⟨by omega, by omega, fun j hj => ?_⟩
          by_cases hji : j = i.toNat
          · subst hji
            rw [hx, hy]
            simpa using hne
          · exact hsame j (by omega)
        · omega
    · refine J_exit rfl ?_
      refine J_seq ?_
      refine Za [.rd 0 [] 0 0] [14, 0, 1, 5] [(4, .val (.bool true))] ?_
      refine Yr [[]] (.bool true) fun a w s => ?_
      have e : decide (xs = ys) = true := by
        simp only [decide_eq_true_eq]
        apply List.ext_getElem?
        intro j
        by_cases hj : j < xs.length
        · exact hsame j (by simp at hlt; omega)
        · rw [List.getElem?_eq_none (by omega), List.getElem?_eq_none (by omega)]
      rw [e]
      exact s.ret (by simp) [] [] rfl rfl
end Go.Proofs.YtonhcoeneahpaaaDoor
end
section
namespace Go.Proofs.YtonhcoeneahpaaaDoor
open Go Go.Sx
set_option maxHeartbeats 4000000 in
theorem partI {P : Program} {t : TypeId} {w : World} {cs : Array Value} {off : Nat} {v : Value} (ht : P.underlying t = some (.int .i64)) (hv : cs[off]? = some v) : (part t cs off).run P w = .ok v w := by
  simp [part, isAgg, underlying, ht, hv, Result.andThen]
set_option maxHeartbeats 4000000 in
theorem eqInt {P : Program} {t : TypeId} (ht : P.underlying t = some (.int .i64)) (d : Nat) (x y : Int) (w : World) : (Op.equalIn (d + 1) t (.int .i64 x) (.int .i64 y)).run P w = .ok (x == y) w := by
  simp [Op.equalIn, run_underlying ht]
set_option maxHeartbeats 4000000 in
theorem eqDot (d : Nat) (a b c a' b' c' : Int) (w : World) : (Op.equalIn (d + 2) 61 (.agg #[.int .i64 a, .int .i64 b, .int .i64 c]) (.agg #[.int .i64 a', .int .i64 b', .int .i64 c'])).run Tryd.prog w = .ok (decide (a = a' ∧ b = b' ∧ c = c')) w := by
  have hs : Tryd.prog.stoodInHeld 61 = false := by kernel_rfl
  rw [Op.equalIn]
  by_cases h1 : a = a' <;> by_cases h2 : b = b' <;> by_cases h3 : c = c' <;>
  simp [run_underlying Tryd.underlying61, hs, eqInt Tryd.underlying3, partI Tryd.underlying3, Result.andThen, h1, h2, h3]
theorem eqRun_neq_61 {x y : Operand} {a b c a' b' c' : Int} : eqRun Tryd.prog .neq 61 x y (.agg #[.int .i64 a, .int .i64 b, .int .i64 c]) (.agg #[.int .i64 a', .int .i64 b', .int .i64 c']) (.bool (!decide (a = a' ∧ b = b' ∧ c = c'))) := fun w => by
  have h : (Op.equal 61 (.agg #[.int .i64 a, .int .i64 b, .int .i64 c]) (.agg #[.int .i64 a', .int .i64 b', .int .i64 c'])).run Tryd.prog w = .ok (decide (a = a' ∧ b = b' ∧ c = c')) w := eqDot 9998 a b c a' b' c' w
  refine ⟨?_, by simp only [binOp, Sem.run_bind, h, Result.andThen_ok, Sem.run_pure]⟩
  have hg : Tryd.prog.eqGuardType Tryd.prog.depth 61 = false := by kernel_rfl
  simp [eqGuard, hg]
end Go.Proofs.YtonhcoeneahpaaaDoor
end
section
namespace Go.Proofs.YtonhcoeneahpaaaDoor
open Go Go.Sx
set_option maxHeartbeats 4000000 in
theorem sameDots_eq {w0 : World} {S : Nat → Prop} {a b : Option Addr} {n m c d : Nat} {l : List DotT} (ha : Rep w0 S (.slice a n c) (.sl 3 (l.map eDot))) (hb : Rep w0 S (.slice b m d) (.sl 3 (l.map eDot))) (hl : l.length ≤ 1000000) :
    Calls Tryd.prog 48 #[.slice a n c, .slice b m d] w0 fun e w' => Ret [] w0 S w' e (.bool true) [] [] := by
  have e1 := ha.slen
  have e2 := hb.slen
  rw [List.length_map] at e1 e2
  subst e1 e2
  refine ep48 (args := [.slice a l.length c, .slice b l.length d]) (G := [(_, .sl 3 (l.map eDot)), (_, .sl 3 (l.map eDot))]) (by kernel_rfl) (.cons ha (.cons hb (.nil _ _))) ?_
  refine J_seq ?_
  refine Za [.rd 0 [] 0 0] [] [(4, .val (.bool false))] ?_
  refine J_seq ?_
  refine J_seq ?_
  refine Zp (Rds 0 4 ++ [.rd 4 [] 0 7]) [] [(10, .val (.bool false))] [((↑l.length : Int) != (↑l.length : Int)) = false] ⟨by simp, trivial⟩ ?_
  refine J_cond_f (by kernel_rfl) (by kernel_rfl) ?_
  refine J_skip ?_
  refine J_seq ?_
  refine J_seq ?_
  refine Za [.rd 0 [] 0 0] [10] [(5, .val (.int .i64 0))] ?_
  refine J_block ?_
  refine J_loopx (fun i : Int => [(0, .val (.slice a l.length c)), (1, .val (.slice b l.length d)), (4, .val (.bool false)), (5, .val (.int .i64 i))]) (fun i : Int => []) (fun i : Int => []) (fun i : Int => [(.slice a l.length c, (D.sl 3 (List.map eDot l))), (.slice b l.length d, (D.sl 3 (List.map eDot l)))]) (fun i : Int => (l.length - i).toNat) (fun i : Int => (0 ≤ i ∧ i ≤ l.length)) 0 [0, 1, 4, 5] [] [] [0, 1] ?_ (by kernel_rfl) rfl rfl rfl ?_
  · exact ⟨by omega, by omega⟩
  rintro i ⟨hi0, hi⟩
  refine J_seq ?_
  refine J_seq ?_
  refine Za (Rds 0 4) [] [(14, .val (.bool (decide (i < (↑l.length : Int)))))] ?_
  refine J_cond (t := decide (i < (↑l.length : Int))) (by kernel_rfl) (by kernel_rfl) (fun hlt => ?_) (fun hlt => ?_)
  · have hlt2 : i < l.length := by simpa using hlt
    obtain ⟨x, hx⟩ : ∃ x, l[i.toNat]? = some x := ⟨_, List.getElem?_eq_getElem (by omega)⟩
    refine J_read0 0 rfl i.toNat (map_at hx) (by kernel_rfl) (fun b1 off1 cs1 ty1 fz1 ha1 hrd1 => ?_)
    cases ha1
    have hrd1_0 := rd0 (hrd1 0 _ rfl)
    have hrd1_1 := hrd1 1 _ rfl
    have hrd1_2 := hrd1 2 _ rfl
    refine J_read0 1 rfl i.toNat (map_at hx) (by kernel_rfl) (fun b2 off2 cs2 ty2 fz2 ha2 hrd2 => ?_)
    cases ha2
    have hrd2_0 := rd0 (hrd2 0 _ rfl)
    have hrd2_1 := hrd2 1 _ rfl
    have hrd2_2 := hrd2 2 _ rfl
    try simp only [aQ]
    refine J_skip ?_
    refine J_seq ?_
    refine J_block ?_
    refine J_seq ?_
    refine Zp [.rd 0 [] 0 0, .rd 1 [] 0 0, .rd 2 [] 0 2, .rd 3 [.r 0 (some (.int .i64 x.place)), .r 0 (some (.int .i64 x.time)), .r 0 (some (.int .i64 x.no))] 0 0, .rd 4 [] 0 0, .rd 5 [] 0 0, .rd 6 [] 0 2, .rd 7 [.r 1 (some (.int .i64 x.place)), .r 1 (some (.int .i64 x.time)), .r 1 (some (.int .i64 x.no))] 0 0, .rd 8 [.r 0 (some (.bool (!decide (x.place = x.place ∧ x.time = x.time ∧ x.no = x.no))))] 0 10] [14] [(25, .val (.bool (!decide (x.place = x.place ∧ x.time = x.time ∧ x.no = x.no))))] [(0 : Int) ≤ i, i < (↑l.length : Int), cs1[off1 + i.toNat * (3 : Nat)]? = some (Value.int IntKind.i64 x.place), cs1[off1 + i.toNat * (3 : Nat) + (1 : Nat)]? = some (Value.int IntKind.i64 x.time), cs1[off1 + i.toNat * (3 : Nat) + (2 : Nat)]? = some (Value.int IntKind.i64 x.no), (0 : Int) ≤ i, i < (↑l.length : Int), cs2[off2 + i.toNat * (3 : Nat)]? = some (Value.int IntKind.i64 x.place), cs2[off2 + i.toNat * (3 : Nat) + (1 : Nat)]? = some (Value.int IntKind.i64 x.time), cs2[off2 + i.toNat * (3 : Nat) + (2 : Nat)]? = some (Value.int IntKind.i64 x.no), eqRun Tryd.prog .neq 61 (Operand.tmp 20) (Operand.tmp 24) (.agg #[.int .i64 x.place, .int .i64 x.time, .int .i64 x.no]) (.agg #[.int .i64 x.place, .int .i64 x.time, .int .i64 x.no]) (.bool (!decide (x.place = x.place ∧ x.time = x.time ∧ x.no = x.no)))] ⟨hi0, hlt2, hrd1_0, hrd1_1, hrd1_2, hi0, hlt2, hrd2_0, hrd2_1, hrd2_2, eqRun_neq_61, trivial⟩ ?_
    refine J_condF (!decide (x.place = x.place ∧ x.time = x.time ∧ x.no = x.no)) (by kernel_rfl) (by kernel_rfl) (by simp) ?_
    refine J_skip ?_
    refine J_eb ?_
    refine Zp [.rd 0 [] 0 0, .rd 1 [] 0 1, .rd 2 [] 0 0] [25] [(5, .val (.int .i64 (i + 1)))] [IntKind.i64.wrap (i + (1 : Int)) = i + (1 : Int)] ⟨wrap_i64 (by omega) (by omega), trivial⟩ ?_
    refine J_backx (i + 1) [0, 1, 4, 5] [] [] [0, 1] ?_ ?_ (by kernel_rfl) rfl rfl rfl
    · exact ⟨by omega, by omega⟩
    · omega
  · refine J_exit rfl ?_
    refine J_seq ?_
    refine Za [.rd 0 [] 0 0] [14, 0, 1, 5] [(4, .val (.bool true))] ?_
    refine Yr [[]] (.bool true) fun a w s => ?_
    exact s.ret (by simp) [] [] rfl rfl
set_option maxHeartbeats 4000000 in
theorem sameOp_eq {w0 : World} {S : Nat → Prop} {a b : Option Addr} {n m c d : Nat} {o : OpT} (ha : Rep w0 S (.slice a n c) (.sl 3 (o.dots.map eDot))) (hb : Rep w0 S (.slice b m d) (.sl 3 (o.dots.map eDot))) (hl : o.dots.length ≤ 1000000) :
    Calls Tryd.prog 41 #[.agg #[.int .i64 o.no, .string o.key, .int .i64 o.kind, .string o.text, .int .i64 o.n, .bool o.remove, .slice a n c], .agg #[.int .i64 o.no, .string o.key, .int .i64 o.kind, .string o.text, .int .i64 o.n, .bool o.remove, .slice b m d]] w0 fun e w' => Ret [] w0 S w' e (.bool true) [] [] := by
  refine ep41 (args := [.agg #[.int .i64 o.no, .string o.key, .int .i64 o.kind, .string o.text, .int .i64 o.n, .bool o.remove, .slice a n c], .agg #[.int .i64 o.no, .string o.key, .int .i64 o.kind, .string o.text, .int .i64 o.n, .bool o.remove, .slice b m d]]) (G := [(_, .sl 3 (o.dots.map eDot)), (_, .sl 3 (o.dots.map eDot))]) (by kernel_rfl) (.cons ha (.cons hb (.nil _ _))) ?_
  refine J_seq ?_
  refine Zm [.wr 0 [] 0, .wr 1 [] 0, .rd 2 [] 0 0] [] [0, 1] (fun nu1 => [(2, .val (.pointer (some (⟨nu1 0, 0, none⟩)))), (3, .val (.pointer (some (⟨nu1 1, 0, none⟩)))), (4, .val (.bool false))]) (fun nu1 => [(nu1 0, .cells #[.int .i64 o.no, .string o.key, .int .i64 o.kind, .string o.text, .int .i64 o.n, .bool o.remove, .slice a n c] 52 (0, 0)), (nu1 1, .cells #[.int .i64 o.no, .string o.key, .int .i64 o.kind, .string o.text, .int .i64 o.n, .bool o.remove, .slice b m d] 52 (0, 0))]) (fun nu1 => ?_)
  refine J_seq ?_
  refine J_seq ?_
  refine Zp ([.rd 0 [] 0 0, .rd 1 [.o 0 none] 0 0, .rd 2 [] 0 0, .rd 3 [.o 1 none] 0 0, .rd 4 [] 0 7, .rd 5 [] 0 0, .rd 6 [] 0 0, .rd 7 [.o 0 none] 0 0, .rd 8 [] 0 0, .rd 9 [.o 1 none] 0 0, .rd 10 [] 0 7] ++ Rds 11 14 ++ [.rd 14 [.o 0 none] 0 0, .rd 15 [] 0 0, .rd 16 [.o 1 none] 0 0, .rd 17 [] 0 7] ++ Rds 18 21 ++ [.rd 21 [.o 0 none] 0 0, .rd 22 [] 0 0, .rd 23 [.o 1 none] 0 0, .rd 24 [] 0 7] ++ Rds 25 28 ++ [.rd 28 [.o 0 none] 0 0, .rd 29 [] 0 0, .rd 30 [.o 1 none] 0 0, .rd 31 [] 0 7] ++ Rds 32 35 ++ [.rd 35 [.o 0 none] 0 0, .rd 36 [] 0 0, .rd 37 [.o 1 none] 0 0, .rd 38 [] 0 7, .rd 39 [] 0 0]) [] [(44, .val (.bool false))] [(o.no != o.no) = false, (!o.key.toList == o.key.toList) = false, (o.kind != o.kind) = false, (!o.text.toList == o.text.toList) = false, (o.n != o.n) = false, (!o.remove == o.remove) = false] ⟨by simp, by simp, by simp, by simp, by simp, by simp, trivial⟩ ?_
  refine J_cond_f (by kernel_rfl) (by kernel_rfl) ?_
  refine J_skip ?_
  refine J_seq ?_
  refine jT [(0, true), (1, true), (2, true), (3, true), (4, false), (5, true)] [] ?_
  refine Ya (id := 3) (rest := [(4, false), (5, true)]) [.rd 0 [] 0 0, .rd 1 [.o 0 none] 0 0, .rd 2 [] 0 0, .rd 3 [.o 1 none] 0 0] [44, 2, 3] [(46, .val (.slice a n c)), (48, .val (.slice b m d))] ?_
  refine Yc 48 #[.slice a n c, .slice b m d] (some 49) fun w S hG => ?_
  refine (sameDots_eq (hG.at 0 rfl) (hG.at 1 rfl) hl).mono ?_
  rintro e1 w1 hR
  refine ⟨_, _, _, hR, ?_⟩
  try simp only [aQ]
  refine Ya (id := 3) (rest := []) [.rd 5 [] 0 0] [49, 46, 48] [(4, .val (.bool true))] ?_
  refine JR_end ?_
  refine Yr [[]] (.bool true) fun a w s => ?_
  exact s.ret (by simp) [] [] rfl rfl
set_option maxHeartbeats 4000000 in
theorem sameCommit_eq {w0 : World} {S : Nat → Prop} {a1 a2 u1 u2 : Option Addr} {n1 c1 n2 c2 m1 d1 m2 d2 : Nat} {c : ComT} (h1 : Rep w0 S (.slice a1 n1 c1) (dInts c.when)) (h2 : Rep w0 S (.slice a2 n2 c2) (.sl 7 (c.ops.map eOp))) (h3 : Rep w0 S (.slice u1 m1 d1) (dInts c.when)) (h4 : Rep w0 S (.slice u2 m2 d2) (.sl 7 (c.ops.map eOp))) (hl1 : c.when.length ≤ 1000000) (hl2 : c.ops.length ≤ 1000000) (hl3 : ∀ o ∈ c.ops, o.dots.length ≤ 1000000) :
    Calls Tryd.prog 32 #[.agg #[.slice a1 n1 c1, .int .i64 c.place, .slice a2 n2 c2], .agg #[.slice u1 m1 d1, .int .i64 c.place, .slice u2 m2 d2]] w0 fun e w' => Ret [] w0 S w' e (.bool true) [] [] := by
  obtain rfl := rep_ints_len h1
  obtain rfl := rep_ints_len h3
  have e2 := h2.slen
  have e4 := h4.slen
  rw [List.length_map] at e2 e4
  subst e2 e4
  refine ep32 (args := [.agg #[.slice a1 c.when.length c1, .int .i64 c.place, .slice a2 c.ops.length c2], .agg #[.slice u1 c.when.length d1, .int .i64 c.place, .slice u2 c.ops.length d2]]) (G := [(_, dInts c.when), (_, .sl 7 (c.ops.map eOp)), (_, dInts c.when), (_, .sl 7 (c.ops.map eOp))]) (by kernel_rfl) (.cons h1 (.cons h2 (.cons h3 (.cons h4 (.nil _ _))))) ?_
  refine J_seq ?_
  refine Zm [.wr 0 [] 0, .wr 1 [] 0, .rd 2 [] 0 0] [] [0, 1] (fun nu1 => [(2, .val (.pointer (some (⟨nu1 0, 0, none⟩)))), (3, .val (.pointer (some (⟨nu1 1, 0, none⟩)))), (4, .val (.bool false))]) (fun nu1 => [(nu1 0, .cells #[.slice a1 c.when.length c1, .int .i64 c.place, .slice a2 c.ops.length c2] 25 (0, 0)), (nu1 1, .cells #[.slice u1 c.when.length d1, .int .i64 c.place, .slice u2 c.ops.length d2] 25 (0, 0))]) (fun nu1 => ?_)
  refine J_seq ?_
  refine J_seq ?_
  refine jT [(0, true), (1, true), (2, true), (3, true), (4, false), (5, true), (6, true), (7, true), (8, true), (9, true), (10, true), (11, true), (12, true), (13, true), (14, true), (15, true), (16, true), (17, true), (18, true), (19, true), (20, true), (21, true)] [] ?_
  refine Ya (id := 1) (rest := [(4, false), (5, true), (6, true), (7, true), (8, true), (9, true), (10, true), (11, true), (12, true), (13, true), (14, true), (15, true), (16, true), (17, true), (18, true), (19, true), (20, true), (21, true)]) [.rd 0 [] 0 0, .rd 1 [.o 0 none] 0 0, .rd 2 [] 0 0, .rd 3 [.o 1 none] 0 0] [] [(8, .val (.slice a1 c.when.length c1)), (10, .val (.slice u1 c.when.length d1))] ?_
  refine Yc 40 #[.slice a1 c.when.length c1, .slice u1 c.when.length d1] (some 11) fun w S hG => ?_
  refine (sameInts (hG.at 0 rfl) (hG.at 2 rfl) hl1).mono ?_
  rintro e1 w1 hR
  rw [decide_eq_true rfl] at hR
  refine ⟨_, _, _, hR, ?_⟩
  try simp only [aQ]
  refine Yp (id := 1) (rest := []) (Rds 5 8 ++ [.rd 8 [.o 0 none] 0 0, .rd 9 [] 0 0, .rd 10 [.o 1 none] 0 0, .rd 11 [] 0 7] ++ Rds 12 15 ++ [.rd 15 [.o 0 none] 0 0, .rd 16 [] 0 0, .rd 17 [] 0 0, .rd 18 [.o 1 none] 0 0, .rd 19 [] 0 0, .rd 20 [] 0 7, .rd 21 [] 0 0]) [11, 8, 10] [(28, .val (.bool false))] [(c.place != c.place) = false, ((↑c.ops.length : Int) != (↑c.ops.length : Int)) = false] ⟨by simp, by simp, trivial⟩ ?_
  refine JR_end ?_
  refine J_cond_f (by kernel_rfl) (by kernel_rfl) ?_
  refine J_skip ?_
  refine J_seq ?_
  refine J_seq ?_
  refine Za [.rd 0 [] 0 0] [28] [(5, .val (.int .i64 0))] ?_
  refine J_block ?_
  refine J_loopx (fun i : Int => [(2, .val (.pointer (some (⟨nu1 0, 0, none⟩)))), (3, .val (.pointer (some (⟨nu1 1, 0, none⟩)))), (4, .val (.bool false)), (5, .val (.int .i64 i))]) (fun i : Int => [(nu1 0, .cells #[.slice a1 c.when.length c1, .int .i64 c.place, .slice a2 c.ops.length c2] 25 (0, 0)), (nu1 1, .cells #[.slice u1 c.when.length d1, .int .i64 c.place, .slice u2 c.ops.length d2] 25 (0, 0))]) (fun i : Int => []) (fun i : Int => [(.slice a1 c.when.length c1, (dInts c.when)), (.slice a2 c.ops.length c2, (D.sl 7 (List.map eOp c.ops))), (.slice u1 c.when.length d1, (dInts c.when)), (.slice u2 c.ops.length d2, (D.sl 7 (List.map eOp c.ops)))]) (fun i : Int => (c.ops.length - i).toNat) (fun i : Int => (0 ≤ i ∧ i ≤ c.ops.length)) 0 [2, 3, 4, 5] [0, 1] [] [0, 1, 2, 3] ?_ (by kernel_rfl) rfl rfl rfl ?_
  · exact ⟨by omega, by omega⟩
  rintro i ⟨hi0, hi⟩
  refine J_seq ?_
  refine J_seq ?_
  refine Za [.rd 0 [] 0 0, .rd 1 [] 0 0, .rd 2 [.o 0 none] 0 0, .rd 3 [] 0 0, .rd 4 [] 0 0] [] [(33, .val (.bool (decide (i < (↑c.ops.length : Int)))))] ?_
  refine J_cond (t := decide (i < (↑c.ops.length : Int))) (by kernel_rfl) (by kernel_rfl) (fun hlt => ?_) (fun hlt => ?_)
  · have hlt2 : i < c.ops.length := by simpa using hlt
    obtain ⟨o, ho⟩ : ∃ o, c.ops[i.toNat]? = some o := ⟨_, List.getElem?_eq_getElem (by omega)⟩
    refine J_read1 1 rfl i.toNat (map_at ho) (by kernel_rfl) (fun b1 off1 cs1 ty1 fz1 a1_0 c1_0 ha1 hrd1 => ?_)
    cases ha1
    have hrd1_0 := rd0 (hrd1 0 _ rfl)
    have hrd1_1 := hrd1 1 _ rfl
    have hrd1_2 := hrd1 2 _ rfl
    have hrd1_3 := hrd1 3 _ rfl
    have hrd1_4 := hrd1 4 _ rfl
    have hrd1_5 := hrd1 5 _ rfl
    have hrd1_6 := hrd1 6 _ rfl
    refine J_read1 3 rfl i.toNat (map_at ho) (by kernel_rfl) (fun b2 off2 cs2 ty2 fz2 a2_0 c2_0 ha2 hrd2 => ?_)
    cases ha2
    have hrd2_0 := rd0 (hrd2 0 _ rfl)
    have hrd2_1 := hrd2 1 _ rfl
    have hrd2_2 := hrd2 2 _ rfl
    have hrd2_3 := hrd2 3 _ rfl
    have hrd2_4 := hrd2 4 _ rfl
    have hrd2_5 := hrd2 5 _ rfl
    have hrd2_6 := hrd2 6 _ rfl
    try simp only [aQ]
    refine J_skip ?_
    refine J_seq ?_
    refine J_block ?_
    refine J_seq ?_
    refine jT [(0, true), (1, true), (2, true), (3, true), (4, true), (5, true), (6, true), (7, true), (8, true), (9, true), (10, false), (11, true)] [] ?_
    refine Yp (id := 6) (rest := [(10, false), (11, true)]) [.rd 0 [] 0 0, .rd 1 [.o 0 none] 0 0, .rd 2 [] 0 0, .rd 3 [] 0 2, .rd 4 [.r 0 (some (.int .i64 o.no)), .r 0 (some (.string o.key)), .r 0 (some (.int .i64 o.kind)), .r 0 (some (.string o.text)), .r 0 (some (.int .i64 o.n)), .r 0 (some (.bool o.remove)), .r 0 (some (.slice (a1_0, c1_0).fst ((List.map eDot o.dots).length) c1_0))] 0 0, .rd 5 [] 0 0, .rd 6 [.o 1 none] 0 0, .rd 7 [] 0 0, .rd 8 [] 0 2, .rd 9 [.r 1 (some (.int .i64 o.no)), .r 1 (some (.string o.key)), .r 1 (some (.int .i64 o.kind)), .r 1 (some (.string o.text)), .r 1 (some (.int .i64 o.n)), .r 1 (some (.bool o.remove)), .r 1 (some (.slice (a2_0, c2_0).fst ((List.map eDot o.dots).length) c2_0))] 0 0] [33] [(40, .val (.agg #[.int .i64 o.no, .string o.key, .int .i64 o.kind, .string o.text, .int .i64 o.n, .bool o.remove, .slice (a1_0, c1_0).fst ((List.map eDot o.dots).length) c1_0])), (45, .val (.agg #[.int .i64 o.no, .string o.key, .int .i64 o.kind, .string o.text, .int .i64 o.n, .bool o.remove, .slice (a2_0, c2_0).fst ((List.map eDot o.dots).length) c2_0]))] [(0 : Int) ≤ i, i < (↑c.ops.length : Int), cs1[off1 + i.toNat * (7 : Nat)]? = some (Value.int IntKind.i64 o.no), cs1[off1 + i.toNat * (7 : Nat) + (1 : Nat)]? = some (Value.string o.key), cs1[off1 + i.toNat * (7 : Nat) + (2 : Nat)]? = some (Value.int IntKind.i64 o.kind), cs1[off1 + i.toNat * (7 : Nat) + (3 : Nat)]? = some (Value.string o.text), cs1[off1 + i.toNat * (7 : Nat) + (4 : Nat)]? = some (Value.int IntKind.i64 o.n), cs1[off1 + i.toNat * (7 : Nat) + (5 : Nat)]? = some (Value.bool o.remove), cs1[off1 + i.toNat * (7 : Nat) + (6 : Nat)]? = some (Value.slice (a1_0, c1_0).fst (List.map eDot o.dots).length (a1_0, c1_0).snd), (0 : Int) ≤ i, i < (↑c.ops.length : Int), cs2[off2 + i.toNat * (7 : Nat)]? = some (Value.int IntKind.i64 o.no), cs2[off2 + i.toNat * (7 : Nat) + (1 : Nat)]? = some (Value.string o.key), cs2[off2 + i.toNat * (7 : Nat) + (2 : Nat)]? = some (Value.int IntKind.i64 o.kind), cs2[off2 + i.toNat * (7 : Nat) + (3 : Nat)]? = some (Value.string o.text), cs2[off2 + i.toNat * (7 : Nat) + (4 : Nat)]? = some (Value.int IntKind.i64 o.n), cs2[off2 + i.toNat * (7 : Nat) + (5 : Nat)]? = some (Value.bool o.remove), cs2[off2 + i.toNat * (7 : Nat) + (6 : Nat)]? = some (Value.slice (a2_0, c2_0).fst (List.map eDot o.dots).length (a2_0, c2_0).snd)] ⟨hi0, hlt2, hrd1_0, hrd1_1, hrd1_2, hrd1_3, hrd1_4, hrd1_5, hrd1_6, hi0, hlt2, hrd2_0, hrd2_1, hrd2_2, hrd2_3, hrd2_4, hrd2_5, hrd2_6, trivial⟩ ?_
    refine Yc 41 #[.agg #[.int .i64 o.no, .string o.key, .int .i64 o.kind, .string o.text, .int .i64 o.n, .bool o.remove, .slice (a1_0, c1_0).fst ((List.map eDot o.dots).length) c1_0], .agg #[.int .i64 o.no, .string o.key, .int .i64 o.kind, .string o.text, .int .i64 o.n, .bool o.remove, .slice (a2_0, c2_0).fst ((List.map eDot o.dots).length) c2_0]] (some 46) fun w S hG => ?_
    refine (sameOp_eq (o := o) (hG.at 4 rfl) (hG.at 5 rfl) (hl3 o (List.mem_of_getElem? ho))).mono ?_
    rintro e1 w1 hR
    refine ⟨_, _, _, hR, ?_⟩
    try simp only [aQ]
    refine Ya (id := 6) (rest := []) [.rd 11 [] 0 0] [46, 40, 45] [(6, .val (.bool true))] ?_
    refine JR_end ?_
    refine J_seq ?_
    refine Za [.rd 0 [] 0 0, .rd 1 [] 0 0] [] [(48, .val (.bool false))] ?_
    refine J_cond_f (by kernel_rfl) (by kernel_rfl) ?_
    refine J_skip ?_
    refine J_eb ?_
    refine Zp [.rd 0 [] 0 0, .rd 1 [] 0 1, .rd 2 [] 0 0] [48] [(5, .val (.int .i64 (i + 1)))] [IntKind.i64.wrap (i + (1 : Int)) = i + (1 : Int)] ⟨wrap_i64 (by omega) (by omega), trivial⟩ ?_
    refine J_backx (i + 1) [2, 3, 4, 5] [0, 1] [] [0, 1, 2, 3] ?_ ?_ (by kernel_rfl) rfl rfl rfl
    · exact ⟨by omega, by omega⟩
    · omega
  · refine J_exit rfl ?_
    refine J_seq ?_
    refine Za [.rd 0 [] 0 0] [33, 2, 3, 5] [(4, .val (.bool true))] ?_
    refine Yr [[]] (.bool true) fun a w s => ?_
    exact s.ret (by simp) [] [] rfl rfl
set_option maxHeartbeats 4000000 in
theorem sameMessage_eq {w0 : World} {S : Nat → Prop} {a1 a2 u1 u2 : Option Addr} {n1 c1 n2 c2 m1 d1 m2 d2 : Nat} {m : MsgT} (h1 : Rep w0 S (.slice a1 n1 c1) (dInts m.c.when)) (h2 : Rep w0 S (.slice a2 n2 c2) (.sl 7 (m.c.ops.map eOp))) (h3 : Rep w0 S (.slice u1 m1 d1) (dInts m.c.when)) (h4 : Rep w0 S (.slice u2 m2 d2) (.sl 7 (m.c.ops.map eOp))) (hl1 : m.c.when.length ≤ 1000000) (hl2 : m.c.ops.length ≤ 1000000) (hl3 : ∀ o ∈ m.c.ops, o.dots.length ≤ 1000000) :
    Calls Tryd.prog 12 #[.agg #[.int .i64 m.fm, .int .i64 m.to, .int .i64 m.shard, .int .i64 m.seq, .int .i64 m.time, .bool m.beat, .slice a1 n1 c1, .int .i64 m.c.place, .slice a2 n2 c2], .agg #[.int .i64 m.fm, .int .i64 m.to, .int .i64 m.shard, .int .i64 m.seq, .int .i64 m.time, .bool m.beat, .slice u1 m1 d1, .int .i64 m.c.place, .slice u2 m2 d2]] w0 fun e w' => Ret [] w0 S w' e (.bool true) [] [] := by
  refine ep12 (args := [.agg #[.int .i64 m.fm, .int .i64 m.to, .int .i64 m.shard, .int .i64 m.seq, .int .i64 m.time, .bool m.beat, .slice a1 n1 c1, .int .i64 m.c.place, .slice a2 n2 c2], .agg #[.int .i64 m.fm, .int .i64 m.to, .int .i64 m.shard, .int .i64 m.seq, .int .i64 m.time, .bool m.beat, .slice u1 m1 d1, .int .i64 m.c.place, .slice u2 m2 d2]]) (G := [(_, dInts m.c.when), (_, .sl 7 (m.c.ops.map eOp)), (_, dInts m.c.when), (_, .sl 7 (m.c.ops.map eOp))]) (by kernel_rfl) (.cons h1 (.cons h2 (.cons h3 (.cons h4 (.nil _ _))))) ?_
  refine J_seq ?_
  refine Zm [.wr 0 [] 0, .wr 1 [] 0, .rd 2 [] 0 0] [] [0, 1] (fun nu1 => [(2, .val (.pointer (some (⟨nu1 0, 0, none⟩)))), (3, .val (.pointer (some (⟨nu1 1, 0, none⟩)))), (4, .val (.bool false))]) (fun nu1 => [(nu1 0, .cells #[.int .i64 m.fm, .int .i64 m.to, .int .i64 m.shard, .int .i64 m.seq, .int .i64 m.time, .bool m.beat, .slice a1 n1 c1, .int .i64 m.c.place, .slice a2 n2 c2] 27 (0, 0)), (nu1 1, .cells #[.int .i64 m.fm, .int .i64 m.to, .int .i64 m.shard, .int .i64 m.seq, .int .i64 m.time, .bool m.beat, .slice u1 m1 d1, .int .i64 m.c.place, .slice u2 m2 d2] 27 (0, 0))]) (fun nu1 => ?_)
  refine J_seq ?_
  refine J_seq ?_
  refine Zp ([.rd 0 [] 0 0, .rd 1 [.o 0 none] 0 0, .rd 2 [] 0 0, .rd 3 [.o 1 none] 0 0, .rd 4 [] 0 7, .rd 5 [] 0 0, .rd 6 [] 0 0, .rd 7 [.o 0 none] 0 0, .rd 8 [] 0 0, .rd 9 [.o 1 none] 0 0, .rd 10 [] 0 7] ++ Rds 11 14 ++ [.rd 14 [.o 0 none] 0 0, .rd 15 [] 0 0, .rd 16 [.o 1 none] 0 0, .rd 17 [] 0 7] ++ Rds 18 21 ++ [.rd 21 [.o 0 none] 0 0, .rd 22 [] 0 0, .rd 23 [.o 1 none] 0 0, .rd 24 [] 0 7] ++ Rds 25 28 ++ [.rd 28 [.o 0 none] 0 0, .rd 29 [] 0 0, .rd 30 [.o 1 none] 0 0, .rd 31 [] 0 7] ++ Rds 32 35 ++ [.rd 35 [.o 0 none] 0 0, .rd 36 [] 0 0, .rd 37 [.o 1 none] 0 0, .rd 38 [] 0 7, .rd 39 [] 0 0]) [] [(44, .val (.bool false))] [(m.fm != m.fm) = false, (m.to != m.to) = false, (m.shard != m.shard) = false, (m.seq != m.seq) = false, (m.time != m.time) = false, (!m.beat == m.beat) = false] ⟨by simp, by simp, by simp, by simp, by simp, by simp, trivial⟩ ?_
  refine J_cond_f (by kernel_rfl) (by kernel_rfl) ?_
  refine J_skip ?_
  refine J_seq ?_
  refine jT [(0, true), (1, true), (2, true), (3, true), (4, false), (5, true)] [] ?_
  refine Ya (id := 3) (rest := [(4, false), (5, true)]) [.rd 0 [] 0 0, .rd 1 [.o 0 none, .o 0 none, .o 0 none] 0 0, .rd 2 [] 0 0, .rd 3 [.o 1 none, .o 1 none, .o 1 none] 0 0] [44, 2, 3] [(46, .val (.agg #[.slice a1 n1 c1, .int .i64 m.c.place, .slice a2 n2 c2])), (48, .val (.agg #[.slice u1 m1 d1, .int .i64 m.c.place, .slice u2 m2 d2]))] ?_
  refine Yc 32 #[.agg #[.slice a1 n1 c1, .int .i64 m.c.place, .slice a2 n2 c2], .agg #[.slice u1 m1 d1, .int .i64 m.c.place, .slice u2 m2 d2]] (some 49) fun w S hG => ?_
  refine (sameCommit_eq (c := m.c) (hG.at 0 rfl) (hG.at 1 rfl) (hG.at 2 rfl) (hG.at 3 rfl) hl1 hl2 hl3).mono ?_
  rintro e1 w1 hR
  refine ⟨_, _, _, hR, ?_⟩
  try simp only [aQ]
  refine Ya (id := 3) (rest := []) [.rd 5 [] 0 0] [49, 46, 48] [(4, .val (.bool true))] ?_
  refine JR_end ?_
  refine Yr [[]] (.bool true) fun a w s => ?_
  exact s.ret (by simp) [] [] rfl rfl
end Go.Proofs.YtonhcoeneahpaaaDoor
end
