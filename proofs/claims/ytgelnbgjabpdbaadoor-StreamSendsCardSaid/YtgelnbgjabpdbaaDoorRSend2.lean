/- causewayref2: Sender: Beat, Commit. -/
import Derived.Test.YtgelnbgjabpdbaaDoorRSend
namespace Go.Proofs.YtgelnbgjabpdbaaDoor
open Go Go.Sx

theorem rbeat {w0 : World} {S : Nat → Prop} {M : List Nat} {b : Nat} {fm to sh q t time : Int} {a : Option Addr} {k cc : Nat} {L : List MsgT}
    (hP : Pre w0 S M [cObj b (rsCells fm to sh q t (.slice a k cc)), cAcc (.slice a k cc) 55 9 (L.map eMsg)]) (hq0 : 0 ≤ q) (hq1 : q < 1000000) (hL : L.length < 1000000) :
    Calls Tryd.prog 30 #[.pointer (some ⟨b, 0, none⟩), .int .i64 time] w0 fun e w' =>
      (beatErr t time ≠ 0 ∧ Ret M w0 S w' e (.tuple #[zMsg, .int .i64 (beatErr t time)]) [cObj b (rsCells fm to sh q t (.slice a k cc)), cAcc (.slice a k cc) 55 9 (L.map eMsg)] []) ∨
      (beatErr t time = 0 ∧ ∃ a' k' c',
      Ret M w0 S w' e (.tuple #[.agg #[.int .i64 fm, .int .i64 to, .int .i64 sh, .int .i64 (q + 1), .int .i64 time, .bool true, .slice none 0 0, .int .i64 0, .slice none 0 0], .int .i64 0])
        [cObj b (rsCells fm to sh (q + 1) time (.slice a' k' c')), cAcc (.slice a' k' c') 55 9 ((L ++ [(⟨fm, to, sh, q + 1, time, true, ⟨[], 0, []⟩⟩ : MsgT)]).map eMsg)] []) := by
  refine en30 (args := [.pointer (some ⟨b, 0, none⟩), .int .i64 time]) (S := S) (C := [cObj b (rsCells fm to sh q t (.slice a k cc)), cAcc (.slice a k cc) 55 9 (L.map eMsg)]) (G := []) (by kernel_rfl) hP (.nil _ _) ?_
  refine J_show 0 rfl ?_
  refine J_seq ?_
  refine J_reg mixed [.wr 0 [] 0, .rd 1 [] 0 0] [] [0, 1, 4, 5] (E1 := fun nu1 => [(0, .val (.pointer (some (⟨b, 0, none⟩)))), (1, .val (.int .i64 time)), (4, .val (.pointer (some (⟨nu1 0, 0, none⟩)))), (5, .val (.int .i64 0))]) (h1 := fun nu1 => [(b, .cells #[.int .i64 fm, .int .i64 to, .int .i64 sh, .int .i64 q, .int .i64 t, .slice a k cc] 64 (0, 0)), (nu1 0, .cells #[.int .i64 0, .int .i64 0, .int .i64 0, .int .i64 0, .int .i64 0, .bool false, .slice none 0 0, .int .i64 0, .slice none 0 0] 55 (0, 0))]) (p1 := fun nu1 => []) (W1 := []) (by kernel_rfl) (fun _ => by kernel_rfl) (fun _ => trivial) (fun nu1 => ?_)
  refine J_seq ?_
  refine J_seq ?_
  refine J_reg mixed [.rd 0 [] 0 0, .rd 1 [] 0 0, .rd 2 [] 0 0, .rd 3 [] 2 0, .rd 4 [] 2 0, .rd 5 [] 0 3] [] [0, 1, 4, 5, 11] (E1 := fun _ => [(0, .val (.pointer (some (⟨b, 0, none⟩)))), (1, .val (.int .i64 time)), (4, .val (.pointer (some (⟨nu1 0, 0, none⟩)))), (5, .val (.int .i64 0)), (11, .val (.bool (decide (time < 0) || decide (time > 1099511627776))))]) (h1 := fun _ => [(b, .cells #[.int .i64 fm, .int .i64 to, .int .i64 sh, .int .i64 q, .int .i64 t, .slice a k cc] 64 (0, 0)), (nu1 0, .cells #[.int .i64 0, .int .i64 0, .int .i64 0, .int .i64 0, .int .i64 0, .bool false, .slice none 0 0, .int .i64 0, .slice none 0 0] 55 (0, 0))]) (p1 := fun _ => []) (W1 := []) (by kernel_rfl) (fun _ => by kernel_rfl) (fun _ => trivial) (fun _ => ?_)
  refine J_cond (t := decide (time < 0) || decide (time > 1099511627776)) (by kernel_rfl) (by kernel_rfl) (fun hb => ?_) (fun hb => ?_)
  · have e1 : beatErr t time = 2 := by rw [beatErr, if_pos (by simp at hb; omega)]
    refine J_seq ?_
    refine J_reg mixed [.rd 0 [] 0 0, .wr 1 [.o 1 none, .o 1 none, .o 1 none, .o 1 none, .o 1 none, .o 1 none, .o 1 none, .o 1 none, .o 1 none] 0, .rd 2 [] 0 0] [(1, [1])] [0, 1, 4, 5] (E1 := fun _ => [(0, .val (.pointer (some (⟨b, 0, none⟩)))), (1, .val (.int .i64 time)), (4, .val (.pointer (some (⟨nu1 0, 0, none⟩)))), (5, .val (.int .i64 2))]) (h1 := fun _ => [(b, .cells #[.int .i64 fm, .int .i64 to, .int .i64 sh, .int .i64 q, .int .i64 t, .slice a k cc] 64 (0, 0)), (nu1 0, .cells #[.int .i64 0, .int .i64 0, .int .i64 0, .int .i64 0, .int .i64 0, .bool false, .slice none 0 0, .int .i64 0, .slice none 0 0] 55 (0, 0))]) (p1 := fun _ => []) (W1 := []) (by kernel_rfl) (fun _ => by kernel_rfl) (fun _ => trivial) (fun _ => ?_)
    refine J_return [[.o 1 none, .o 1 none, .o 1 none, .o 1 none, .o 1 none, .o 1 none, .o 1 none, .o 1 none, .o 1 none], []] (.tuple #[.agg #[.int .i64 0, .int .i64 0, .int .i64 0, .int .i64 0, .int .i64 0, .bool false, .slice none 0 0, .int .i64 0, .slice none 0 0], .int .i64 2]) (by kernel_rfl) (fun a w s => ?_)
    refine .inl ⟨by rw [e1]; decide, ?_⟩
    rw [e1]
    exact (s.hide 0 rfl).ret (by simp) [1, 0] [] rfl rfl
  · have hn : ¬ (time < 0 ∨ 1099511627776 < time) := by simp at hb; omega
    refine J_skip ?_
    refine J_seq ?_
    refine J_seq ?_
    refine J_reg mixed [.rd 0 [] 0 0, .rd 1 [] 0 0, .rd 2 [] 0 0, .rd 3 [] 0 0, .rd 4 [.o 0 none] 0 0, .rd 5 [] 0 0] [] [0, 1, 4, 5, 18] (E1 := fun _ => [(0, .val (.pointer (some (⟨b, 0, none⟩)))), (1, .val (.int .i64 time)), (4, .val (.pointer (some (⟨nu1 0, 0, none⟩)))), (5, .val (.int .i64 0)), (18, .val (.bool (decide (time < t))))]) (h1 := fun _ => [(b, .cells #[.int .i64 fm, .int .i64 to, .int .i64 sh, .int .i64 q, .int .i64 t, .slice a k cc] 64 (0, 0)), (nu1 0, .cells #[.int .i64 0, .int .i64 0, .int .i64 0, .int .i64 0, .int .i64 0, .bool false, .slice none 0 0, .int .i64 0, .slice none 0 0] 55 (0, 0))]) (p1 := fun _ => []) (W1 := []) (by kernel_rfl) (fun _ => by kernel_rfl) (fun _ => trivial) (fun _ => ?_)
    refine J_cond (t := decide (time < t)) (by kernel_rfl) (by kernel_rfl) (fun ho => ?_) (fun ho => ?_)
    · have e1 : beatErr t time = 9 := by rw [beatErr, if_neg hn, if_pos (by simpa using ho)]
      refine J_seq ?_
      refine J_reg mixed [.rd 0 [] 0 0, .wr 1 [.o 1 none, .o 1 none, .o 1 none, .o 1 none, .o 1 none, .o 1 none, .o 1 none, .o 1 none, .o 1 none] 0, .rd 2 [] 0 0] [(1, [1])] [0, 1, 4, 5] (E1 := fun _ => [(0, .val (.pointer (some (⟨b, 0, none⟩)))), (1, .val (.int .i64 time)), (4, .val (.pointer (some (⟨nu1 0, 0, none⟩)))), (5, .val (.int .i64 9))]) (h1 := fun _ => [(b, .cells #[.int .i64 fm, .int .i64 to, .int .i64 sh, .int .i64 q, .int .i64 t, .slice a k cc] 64 (0, 0)), (nu1 0, .cells #[.int .i64 0, .int .i64 0, .int .i64 0, .int .i64 0, .int .i64 0, .bool false, .slice none 0 0, .int .i64 0, .slice none 0 0] 55 (0, 0))]) (p1 := fun _ => []) (W1 := []) (by kernel_rfl) (fun _ => by kernel_rfl) (fun _ => trivial) (fun _ => ?_)
      refine J_return [[.o 1 none, .o 1 none, .o 1 none, .o 1 none, .o 1 none, .o 1 none, .o 1 none, .o 1 none, .o 1 none], []] (.tuple #[.agg #[.int .i64 0, .int .i64 0, .int .i64 0, .int .i64 0, .int .i64 0, .bool false, .slice none 0 0, .int .i64 0, .slice none 0 0], .int .i64 9]) (by kernel_rfl) (fun a w s => ?_)
      refine .inl ⟨by rw [e1]; decide, ?_⟩
      rw [e1]
      exact (s.hide 0 rfl).ret (by simp) [1, 0] [] rfl rfl
    · have e1 : beatErr t time = 0 := by rw [beatErr, if_neg hn, if_neg (by simpa using ho)]
      refine J_skip ?_
      refine J_seq ?_
      refine J_hide 0 rfl ?_
      try simp only [List.cons_append, List.nil_append, List.append_nil]
      refine JR_begin mixed [(0, true), (1, true), (2, true), (3, false), (4, false), (5, true)] [] (by kernel_rfl) (by kernel_rfl) ?_
      refine JR_run (id := 5) (rest := [(3, false), (4, false), (5, true)]) [.rd 0 [] 0 0, .rd 1 [] 0 0, .rd 2 [] 0 0] [4, 5, 20, 21, 22] (E1 := fun _ => [(4, .val (.pointer (some (⟨nu1 0, 0, none⟩)))), (5, .val (.int .i64 0)), (20, .val (.pointer (some (⟨b, 0, none⟩)))), (21, .val (.int .i64 time)), (22, .val (.agg #[.slice none 0 0, .int .i64 0, .slice none 0 0]))]) (h1 := fun _ => [(nu1 0, .cells #[.int .i64 0, .int .i64 0, .int .i64 0, .int .i64 0, .int .i64 0, .bool false, .slice none 0 0, .int .i64 0, .slice none 0 0] 55 (0, 0))]) (p1 := fun _ => []) (W1 := []) (fun _ => by kernel_rfl) (fun _ => trivial) (fun _ => ?_)
      refine JR_call [] [1, 0] 41 #[.pointer (some (⟨b, 0, none⟩)), .int .i64 time, .agg #[.slice none 0 0, .int .i64 0, .slice none 0 0], .bool true] (some 23) (by kernel_rfl) (by kernel_rfl) (by decide) (fun w S M hP hG _ => ?_)
      refine (rnext (c := ⟨[], 0, []⟩) hP .nil .nil hq0 hq1 hL).mono ?_
      rintro e2 w2 ⟨a', k', c', hR⟩
      refine ⟨_, _, _, hR, ?_⟩
      try simp only [List.cons_append, List.nil_append, List.append_nil]
      refine JR_run (id := 5) (rest := []) [.wr 4 [.o 0 none, .o 0 none, .o 0 none, .o 0 none, .o 0 none, .o 0 none, .o 0 none, .o 0 none, .o 0 none] 0, .rd 5 [] 0 0] [4, 5] (E1 := fun _ => [(4, .val (.pointer (some (⟨nu1 0, 0, none⟩)))), (5, .val (.int .i64 0))]) (h1 := fun _ => [(nu1 0, .cells #[.int .i64 fm, .int .i64 to, .int .i64 sh, .int .i64 (q + 1), .int .i64 time, .bool true, .slice none 0 0, .int .i64 0, .slice none 0 0] 55 (0, 0))]) (p1 := fun _ => []) (W1 := []) (fun _ => by kernel_rfl) (fun _ => trivial) (fun _ => ?_)
      try simp only [List.cons_append, List.nil_append, List.append_nil]
      refine JR_end ?_
      try simp only [List.cons_append, List.nil_append, List.append_nil]
      refine J_return [[.o 0 none, .o 0 none, .o 0 none, .o 0 none, .o 0 none, .o 0 none, .o 0 none, .o 0 none, .o 0 none], []] (.tuple #[.agg #[.int .i64 fm, .int .i64 to, .int .i64 sh, .int .i64 (q + 1), .int .i64 time, .bool true, .slice none 0 0, .int .i64 0, .slice none 0 0], .int .i64 0]) (by kernel_rfl) (fun a w s => ?_)
      exact .inr ⟨e1, a', k', c', s.ret (by simp) [0, 1] [] rfl rfl⟩

set_option maxHeartbeats 2000000 in
theorem rcommit {w0 : World} {S : Nat → Prop} {M : List Nat} {b : Nat} {fm to sh q t : Int} {a : Option Addr} {k cc : Nat} {L : List MsgT} {c : ComT} {a1 a2 : Option Addr} {n1 c1 n2 c2 : Nat}
    (hP : Pre w0 S M [cObj b (rsCells fm to sh q t (.slice a k cc)), cAcc (.slice a k cc) 55 9 (L.map eMsg)]) (h1 : Rep w0 S (.slice a1 n1 c1) (dInts c.when)) (h2 : Rep w0 S (.slice a2 n2 c2) (.sl 7 (c.ops.map eOp))) (hl1 : c.when.length ≤ 1000000) (hl2 : c.ops.length ≤ 1000000)
    (hq0 : 0 ≤ q) (hq1 : q < 1000000) (hL : L.length < 1000000) :
    Calls Tryd.prog 26 #[.pointer (some ⟨b, 0, none⟩), .agg #[.slice a1 n1 c1, .int .i64 c.place, .slice a2 n2 c2]] w0 fun e w' =>
      ((scomErr c fm t).code ≠ 0 ∧ Ret M w0 S w' e (.tuple #[zMsg, fA (scomErr c fm t)]) [cObj b (rsCells fm to sh q t (.slice a k cc)), cAcc (.slice a k cc) 55 9 (L.map eMsg)] []) ∨
      (scomErr c fm t = ⟨0, -1⟩ ∧ ∃ a' k' c',
      Ret M w0 S w' e (.tuple #[.agg #[.int .i64 fm, .int .i64 to, .int .i64 sh, .int .i64 (q + 1), .int .i64 (c.when.getD c.place.toNat 0), .bool false, .slice a1 n1 c1, .int .i64 c.place, .slice a2 n2 c2], fA ⟨0, -1⟩])
        [cObj b (rsCells fm to sh (q + 1) (c.when.getD c.place.toNat 0) (.slice a' k' c')), cAcc (.slice a' k' c') 55 9 ((L ++ [(⟨fm, to, sh, q + 1, c.when.getD c.place.toNat 0, false, c⟩ : MsgT)]).map eMsg)] []) := by
  obtain rfl := rep_ints_len h1
  refine en26 (args := [.pointer (some ⟨b, 0, none⟩), .agg #[.slice a1 c.when.length c1, .int .i64 c.place, .slice a2 n2 c2]]) (S := S) (C := [cObj b (rsCells fm to sh q t (.slice a k cc)), cAcc (.slice a k cc) 55 9 (L.map eMsg)]) (G := [(_, dInts c.when), (_, .sl 7 (c.ops.map eOp))]) (by kernel_rfl) hP (.cons h1 (.cons h2 (.nil _ _))) ?_
  refine J_show 0 rfl ?_
  refine J_seq ?_
  refine J_reg mixed [.wr 0 [] 0, .wr 1 [] 0, .wr 2 [] 0] [] [0, 3, 4, 5] (E1 := fun nu1 => [(0, .val (.pointer (some (⟨b, 0, none⟩)))), (3, .val (.pointer (some (⟨nu1 0, 0, none⟩)))), (4, .val (.pointer (some (⟨nu1 1, 0, none⟩)))), (5, .val (.pointer (some (⟨nu1 2, 0, none⟩))))]) (h1 := fun nu1 => [(b, .cells #[.int .i64 fm, .int .i64 to, .int .i64 sh, .int .i64 q, .int .i64 t, .slice a k cc] 64 (0, 0)), (nu1 0, .cells #[.slice a1 c.when.length c1, .int .i64 c.place, .slice a2 n2 c2] 35 (0, 0)), (nu1 1, .cells #[.int .i64 0, .int .i64 0, .int .i64 0, .int .i64 0, .int .i64 0, .bool false, .slice none 0 0, .int .i64 0, .slice none 0 0] 55 (0, 0)), (nu1 2, .cells #[.int .i64 0, .int .i64 0] 71 (0, 0))]) (p1 := fun nu1 => []) (W1 := []) (by kernel_rfl) (fun _ => by kernel_rfl) (fun _ => trivial) (fun nu1 => ?_)
  refine J_seq ?_
  refine JR_begin mixed [(0, true), (1, false), (2, false), (3, false)] [] (by kernel_rfl) (by kernel_rfl) ?_
  refine JR_run (id := 1) (rest := [(1, false), (2, false), (3, false)]) [.rd 0 [.o 1 none, .o 1 none, .o 1 none] 0 0] [0, 3, 4, 5, 7] (E1 := fun _ => [(0, .val (.pointer (some (⟨b, 0, none⟩)))), (3, .val (.pointer (some (⟨nu1 0, 0, none⟩)))), (4, .val (.pointer (some (⟨nu1 1, 0, none⟩)))), (5, .val (.pointer (some (⟨nu1 2, 0, none⟩)))), (7, .val (.agg #[.slice a1 c.when.length c1, .int .i64 c.place, .slice a2 n2 c2]))]) (h1 := fun _ => [(b, .cells #[.int .i64 fm, .int .i64 to, .int .i64 sh, .int .i64 q, .int .i64 t, .slice a k cc] 64 (0, 0)), (nu1 0, .cells #[.slice a1 c.when.length c1, .int .i64 c.place, .slice a2 n2 c2] 35 (0, 0)), (nu1 1, .cells #[.int .i64 0, .int .i64 0, .int .i64 0, .int .i64 0, .int .i64 0, .bool false, .slice none 0 0, .int .i64 0, .slice none 0 0] 55 (0, 0)), (nu1 2, .cells #[.int .i64 0, .int .i64 0] 71 (0, 0))]) (p1 := fun _ => []) (W1 := []) (fun _ => by kernel_rfl) (fun _ => trivial) (fun _ => ?_)
  refine JR_callp [] 39 #[.agg #[.slice a1 c.when.length c1, .int .i64 c.place, .slice a2 n2 c2]] (some 8) (by kernel_rfl) (fun w S hG => ?_)
  refine (commitFault (c := c) (hG.at 0 rfl) (hG.at 1 rfl) hl1 hl2).mono ?_
  rintro e1 w1 hR
  refine ⟨_, _, _, hR, ?_⟩
  by_cases hc0 : (comFault c).code = 0
  · obtain ⟨hcf, hp0, hp1⟩ := comFault_ok hc0
    rw [hcf]
    try simp only [List.cons_append, List.nil_append, List.append_nil]
    refine JR_run (id := 1) (rest := []) [.wr 2 [] 0, .wr 3 [.o 4 none, .o 4 none] 0] [0, 3, 4, 5, 6] (E1 := fun nu2 => [(0, .val (.pointer (some (⟨b, 0, none⟩)))), (3, .val (.pointer (some (⟨nu1 0, 0, none⟩)))), (4, .val (.pointer (some (⟨nu1 1, 0, none⟩)))), (5, .val (.pointer (some (⟨nu1 2, 0, none⟩)))), (6, .val (.pointer (some (⟨nu2 0, 0, none⟩))))]) (h1 := fun nu2 => [(b, .cells #[.int .i64 fm, .int .i64 to, .int .i64 sh, .int .i64 q, .int .i64 t, .slice a k cc] 64 (0, 0)), (nu1 0, .cells #[.slice a1 c.when.length c1, .int .i64 c.place, .slice a2 n2 c2] 35 (0, 0)), (nu1 1, .cells #[.int .i64 0, .int .i64 0, .int .i64 0, .int .i64 0, .int .i64 0, .bool false, .slice none 0 0, .int .i64 0, .slice none 0 0] 55 (0, 0)), (nu1 2, .cells #[.int .i64 0, .int .i64 0] 71 (0, 0)), (nu2 0, .cells #[.int .i64 0, .int .i64 (-1)] 71 (0, 0))]) (p1 := fun nu2 => []) (W1 := []) (fun _ => by kernel_rfl) (fun _ => trivial) (fun nu2 => ?_)
    refine JR_end ?_
    refine J_seq ?_
    refine J_seq ?_
    refine J_reg mixed [.rd 0 [] 0 0, .rd 1 [.o 4 none] 0 0, .rd 2 [] 0 0] [] [0, 3, 4, 5, 6, 11] (E1 := fun _ => [(0, .val (.pointer (some (⟨b, 0, none⟩)))), (3, .val (.pointer (some (⟨nu1 0, 0, none⟩)))), (4, .val (.pointer (some (⟨nu1 1, 0, none⟩)))), (5, .val (.pointer (some (⟨nu1 2, 0, none⟩)))), (6, .val (.pointer (some (⟨nu2 0, 0, none⟩)))), (11, .val (.bool false))]) (h1 := fun _ => [(b, .cells #[.int .i64 fm, .int .i64 to, .int .i64 sh, .int .i64 q, .int .i64 t, .slice a k cc] 64 (0, 0)), (nu1 0, .cells #[.slice a1 c.when.length c1, .int .i64 c.place, .slice a2 n2 c2] 35 (0, 0)), (nu1 1, .cells #[.int .i64 0, .int .i64 0, .int .i64 0, .int .i64 0, .int .i64 0, .bool false, .slice none 0 0, .int .i64 0, .slice none 0 0] 55 (0, 0)), (nu1 2, .cells #[.int .i64 0, .int .i64 0] 71 (0, 0)), (nu2 0, .cells #[.int .i64 0, .int .i64 (-1)] 71 (0, 0))]) (p1 := fun _ => []) (W1 := []) (by kernel_rfl) (fun _ => by kernel_rfl) (fun _ => trivial) (fun _ => ?_)
    refine J_cond_f (by kernel_rfl) (by kernel_rfl) ?_
    refine J_skip ?_
    refine J_seq ?_
    refine J_seq ?_
    refine J_reg mixed [.rd 0 [] 0 0, .rd 1 [.o 1 none] 0 0, .rd 2 [] 0 0, .rd 3 [] 0 0, .rd 4 [] 0 0, .rd 5 [.o 0 none] 0 0, .rd 6 [] 0 0] [] [0, 3, 4, 5, 6, 20] (E1 := fun _ => [(0, .val (.pointer (some (⟨b, 0, none⟩)))), (3, .val (.pointer (some (⟨nu1 0, 0, none⟩)))), (4, .val (.pointer (some (⟨nu1 1, 0, none⟩)))), (5, .val (.pointer (some (⟨nu1 2, 0, none⟩)))), (6, .val (.pointer (some (⟨nu2 0, 0, none⟩)))), (20, .val (.bool (c.place != fm)))]) (h1 := fun _ => [(b, .cells #[.int .i64 fm, .int .i64 to, .int .i64 sh, .int .i64 q, .int .i64 t, .slice a k cc] 64 (0, 0)), (nu1 0, .cells #[.slice a1 c.when.length c1, .int .i64 c.place, .slice a2 n2 c2] 35 (0, 0)), (nu1 1, .cells #[.int .i64 0, .int .i64 0, .int .i64 0, .int .i64 0, .int .i64 0, .bool false, .slice none 0 0, .int .i64 0, .slice none 0 0] 55 (0, 0)), (nu1 2, .cells #[.int .i64 0, .int .i64 0] 71 (0, 0)), (nu2 0, .cells #[.int .i64 0, .int .i64 (-1)] 71 (0, 0))]) (p1 := fun _ => []) (W1 := []) (by kernel_rfl) (fun _ => by kernel_rfl) (fun _ => trivial) (fun _ => ?_)
    have hcc : ¬ ((comFault c).code ≠ 0) := by simp [hc0]
    refine J_cond (t := c.place != fm) (by kernel_rfl) (by kernel_rfl) (fun hpl => ?_) (fun hpl => ?_)
    · have e : scomErr c fm t = ⟨3, -1⟩ := by rw [scomErr, if_neg hcc, if_pos (by simpa using hpl)]
      rw [e]
      refine J_seq ?_
      refine JR_begin mixed [(0, true), (1, false), (2, false), (3, false)] [] (by kernel_rfl) (by kernel_rfl) ?_
      refine JR_run (id := 5) (rest := [(1, false), (2, false), (3, false)]) [.rd 0 [] 0 0] [0, 3, 4, 5, 6, 21] (E1 := fun _ => [(0, .val (.pointer (some (⟨b, 0, none⟩)))), (3, .val (.pointer (some (⟨nu1 0, 0, none⟩)))), (4, .val (.pointer (some (⟨nu1 1, 0, none⟩)))), (5, .val (.pointer (some (⟨nu1 2, 0, none⟩)))), (6, .val (.pointer (some (⟨nu2 0, 0, none⟩)))), (21, .val (.agg #[.int .i64 0, .int .i64 0, .int .i64 0, .int .i64 0, .int .i64 0, .bool false, .slice none 0 0, .int .i64 0, .slice none 0 0]))]) (h1 := fun _ => [(b, .cells #[.int .i64 fm, .int .i64 to, .int .i64 sh, .int .i64 q, .int .i64 t, .slice a k cc] 64 (0, 0)), (nu1 0, .cells #[.slice a1 c.when.length c1, .int .i64 c.place, .slice a2 n2 c2] 35 (0, 0)), (nu1 1, .cells #[.int .i64 0, .int .i64 0, .int .i64 0, .int .i64 0, .int .i64 0, .bool false, .slice none 0 0, .int .i64 0, .slice none 0 0] 55 (0, 0)), (nu1 2, .cells #[.int .i64 0, .int .i64 0] 71 (0, 0)), (nu2 0, .cells #[.int .i64 0, .int .i64 (-1)] 71 (0, 0))]) (p1 := fun _ => []) (W1 := []) (fun _ => by kernel_rfl) (fun _ => trivial) (fun _ => ?_)
      refine JR_callp [] 40 #[.int .i64 3] (some 22) (by kernel_rfl) (fun w S hG => ?_)
      refine (rBare (w := w) (S := S)).mono ?_
      rintro e2 w2 hR
      refine ⟨_, _, _, hR, ?_⟩
      try simp only [List.cons_append, List.nil_append, List.append_nil]
      refine JR_run (id := 5) (rest := []) [.wr 2 [.o 2 none, .o 2 none, .o 2 none, .o 2 none, .o 2 none, .o 2 none, .o 2 none, .o 2 none, .o 2 none] 0, .wr 3 [.o 3 none, .o 3 none] 0] [0, 3, 4, 5, 6] (E1 := fun _ => [(0, .val (.pointer (some (⟨b, 0, none⟩)))), (3, .val (.pointer (some (⟨nu1 0, 0, none⟩)))), (4, .val (.pointer (some (⟨nu1 1, 0, none⟩)))), (5, .val (.pointer (some (⟨nu1 2, 0, none⟩)))), (6, .val (.pointer (some (⟨nu2 0, 0, none⟩))))]) (h1 := fun _ => [(b, .cells #[.int .i64 fm, .int .i64 to, .int .i64 sh, .int .i64 q, .int .i64 t, .slice a k cc] 64 (0, 0)), (nu1 0, .cells #[.slice a1 c.when.length c1, .int .i64 c.place, .slice a2 n2 c2] 35 (0, 0)), (nu1 1, .cells #[.int .i64 0, .int .i64 0, .int .i64 0, .int .i64 0, .int .i64 0, .bool false, .slice none 0 0, .int .i64 0, .slice none 0 0] 55 (0, 0)), (nu1 2, .cells #[.int .i64 3, .int .i64 (-1)] 71 (0, 0)), (nu2 0, .cells #[.int .i64 0, .int .i64 (-1)] 71 (0, 0))]) (p1 := fun _ => []) (W1 := []) (fun _ => by kernel_rfl) (fun _ => trivial) (fun _ => ?_)
      refine JR_end ?_
      refine J_return [[.o 2 none, .o 2 none, .o 2 none, .o 2 none, .o 2 none, .o 2 none, .o 2 none, .o 2 none, .o 2 none], [.o 3 none, .o 3 none]] (.tuple #[.agg #[.int .i64 0, .int .i64 0, .int .i64 0, .int .i64 0, .int .i64 0, .bool false, .slice none 0 0, .int .i64 0, .slice none 0 0], .agg #[.int .i64 3, .int .i64 (-1)]]) (by kernel_rfl) (fun a w s => ?_)
      exact .inl ⟨by decide, (s.hide 0 rfl).ret (by simp) [1, 0] [] rfl rfl⟩
    have hpl2 : ¬ c.place ≠ fm := by simpa using hpl
    obtain ⟨t1, ht1⟩ : ∃ t1, c.when[c.place.toNat]? = some t1 := ⟨_, List.getElem?_eq_getElem (by omega)⟩
    have hgd : c.when.getD c.place.toNat 0 = t1 := by rw [List.getD_eq_getElem?_getD, ht1]; rfl
    rw [hgd]
    refine J_read0 0 rfl c.place.toNat (map_at ht1) (by kernel_rfl) (fun b1 off1 cs1 ty1 fz1 ha1 hrd1 => ?_)
    cases ha1
    have hrd1_0 := rd0 (hrd1 0 _ rfl)
    try simp only [List.cons_append, List.nil_append, List.append_nil]
    refine J_skip ?_
    refine J_seq ?_
    refine J_seq ?_
    refine J_reg mixed [.rd 0 [] 0 0, .rd 1 [.o 1 none] 0 0, .rd 2 [] 0 0, .rd 3 [.o 1 none] 0 0, .rd 4 [] 0 2, .rd 5 [.r 0 (some (.int .i64 t1))] 0 0, .rd 6 [] 0 0, .rd 7 [] 0 0, .rd 8 [] 0 0, .rd 9 [.o 0 none] 0 0, .rd 10 [] 0 0] [] [0, 3, 4, 5, 6, 33] (E1 := fun _ => [(0, .val (.pointer (some (⟨b, 0, none⟩)))), (3, .val (.pointer (some (⟨nu1 0, 0, none⟩)))), (4, .val (.pointer (some (⟨nu1 1, 0, none⟩)))), (5, .val (.pointer (some (⟨nu1 2, 0, none⟩)))), (6, .val (.pointer (some (⟨nu2 0, 0, none⟩)))), (33, .val (.bool (decide (t1 ≤ t))))]) (h1 := fun _ => [(b, .cells #[.int .i64 fm, .int .i64 to, .int .i64 sh, .int .i64 q, .int .i64 t, .slice a k cc] 64 (0, 0)), (nu1 0, .cells #[.slice (some (⟨b1, off1, none⟩)) c.when.length c1, .int .i64 c.place, .slice a2 n2 c2] 35 (0, 0)), (nu1 1, .cells #[.int .i64 0, .int .i64 0, .int .i64 0, .int .i64 0, .int .i64 0, .bool false, .slice none 0 0, .int .i64 0, .slice none 0 0] 55 (0, 0)), (nu1 2, .cells #[.int .i64 0, .int .i64 0] 71 (0, 0)), (nu2 0, .cells #[.int .i64 0, .int .i64 (-1)] 71 (0, 0))]) (p1 := fun _ => [(0 : Int) ≤ c.place, c.place < (↑c.when.length : Int), cs1[off1 + c.place.toNat * (1 : Nat)]? = some (Value.int IntKind.i64 t1)]) (W1 := []) (by kernel_rfl) (fun _ => by kernel_rfl) (fun _ => ⟨hp0, hp1, hrd1_0, trivial⟩) (fun _ => ?_)
    refine J_cond (t := decide (t1 ≤ t)) (by kernel_rfl) (by kernel_rfl) (fun hold => ?_) (fun hold => ?_)
    · have e : scomErr c fm t = ⟨9, -1⟩ := by rw [scomErr, if_neg hcc, if_neg hpl2, hgd, if_pos (by simpa using hold)]
      rw [e]
      refine J_seq ?_
      refine JR_begin mixed [(0, true), (1, false), (2, false), (3, false)] [] (by kernel_rfl) (by kernel_rfl) ?_
      refine JR_run (id := 7) (rest := [(1, false), (2, false), (3, false)]) [.rd 0 [] 0 0] [0, 3, 4, 5, 6, 34] (E1 := fun _ => [(0, .val (.pointer (some (⟨b, 0, none⟩)))), (3, .val (.pointer (some (⟨nu1 0, 0, none⟩)))), (4, .val (.pointer (some (⟨nu1 1, 0, none⟩)))), (5, .val (.pointer (some (⟨nu1 2, 0, none⟩)))), (6, .val (.pointer (some (⟨nu2 0, 0, none⟩)))), (34, .val (.agg #[.int .i64 0, .int .i64 0, .int .i64 0, .int .i64 0, .int .i64 0, .bool false, .slice none 0 0, .int .i64 0, .slice none 0 0]))]) (h1 := fun _ => [(b, .cells #[.int .i64 fm, .int .i64 to, .int .i64 sh, .int .i64 q, .int .i64 t, .slice a k cc] 64 (0, 0)), (nu1 0, .cells #[.slice (some (⟨b1, off1, none⟩)) c.when.length c1, .int .i64 c.place, .slice a2 n2 c2] 35 (0, 0)), (nu1 1, .cells #[.int .i64 0, .int .i64 0, .int .i64 0, .int .i64 0, .int .i64 0, .bool false, .slice none 0 0, .int .i64 0, .slice none 0 0] 55 (0, 0)), (nu1 2, .cells #[.int .i64 0, .int .i64 0] 71 (0, 0)), (nu2 0, .cells #[.int .i64 0, .int .i64 (-1)] 71 (0, 0))]) (p1 := fun _ => []) (W1 := []) (fun _ => by kernel_rfl) (fun _ => trivial) (fun _ => ?_)
      refine JR_callp [] 40 #[.int .i64 9] (some 35) (by kernel_rfl) (fun w S hG => ?_)
      refine (rBare (w := w) (S := S)).mono ?_
      rintro e2 w2 hR
      refine ⟨_, _, _, hR, ?_⟩
      try simp only [List.cons_append, List.nil_append, List.append_nil]
      refine JR_run (id := 7) (rest := []) [.wr 2 [.o 2 none, .o 2 none, .o 2 none, .o 2 none, .o 2 none, .o 2 none, .o 2 none, .o 2 none, .o 2 none] 0, .wr 3 [.o 3 none, .o 3 none] 0] [0, 3, 4, 5, 6] (E1 := fun _ => [(0, .val (.pointer (some (⟨b, 0, none⟩)))), (3, .val (.pointer (some (⟨nu1 0, 0, none⟩)))), (4, .val (.pointer (some (⟨nu1 1, 0, none⟩)))), (5, .val (.pointer (some (⟨nu1 2, 0, none⟩)))), (6, .val (.pointer (some (⟨nu2 0, 0, none⟩))))]) (h1 := fun _ => [(b, .cells #[.int .i64 fm, .int .i64 to, .int .i64 sh, .int .i64 q, .int .i64 t, .slice a k cc] 64 (0, 0)), (nu1 0, .cells #[.slice (some (⟨b1, off1, none⟩)) c.when.length c1, .int .i64 c.place, .slice a2 n2 c2] 35 (0, 0)), (nu1 1, .cells #[.int .i64 0, .int .i64 0, .int .i64 0, .int .i64 0, .int .i64 0, .bool false, .slice none 0 0, .int .i64 0, .slice none 0 0] 55 (0, 0)), (nu1 2, .cells #[.int .i64 9, .int .i64 (-1)] 71 (0, 0)), (nu2 0, .cells #[.int .i64 0, .int .i64 (-1)] 71 (0, 0))]) (p1 := fun _ => []) (W1 := []) (fun _ => by kernel_rfl) (fun _ => trivial) (fun _ => ?_)
      refine JR_end ?_
      refine J_return [[.o 2 none, .o 2 none, .o 2 none, .o 2 none, .o 2 none, .o 2 none, .o 2 none, .o 2 none, .o 2 none], [.o 3 none, .o 3 none]] (.tuple #[.agg #[.int .i64 0, .int .i64 0, .int .i64 0, .int .i64 0, .int .i64 0, .bool false, .slice none 0 0, .int .i64 0, .slice none 0 0], .agg #[.int .i64 9, .int .i64 (-1)]]) (by kernel_rfl) (fun a w s => ?_)
      exact .inl ⟨by decide, (s.hide 0 rfl).ret (by simp) [1, 0] [] rfl rfl⟩
    have e : scomErr c fm t = ⟨0, -1⟩ := by rw [scomErr, if_neg hcc, if_neg hpl2, hgd, if_neg (by simpa using hold)]
    refine J_skip ?_
    refine J_seq ?_
    refine J_hide 0 rfl ?_
    try simp only [List.cons_append, List.nil_append, List.append_nil]
    refine JR_begin mixed [(0, true), (1, true), (2, true), (3, true), (4, true), (5, true), (6, true), (7, true), (9, true), (8, false), (10, false), (11, false)] [(8, []), (10, [1]), (11, [2])] (by kernel_rfl) (by kernel_rfl) ?_
    refine JR_run (id := 8) (rest := [(8, false), (10, false), (11, false)]) [.rd 0 [] 0 0, .rd 1 [] 0 0, .rd 2 [.o 0 none] 0 0, .rd 3 [] 0 0, .rd 4 [.o 0 none] 0 0, .rd 5 [] 0 2, .rd 6 [.r 0 (some (.int .i64 t1))] 0 0, .rd 7 [.o 0 none, .o 0 none, .o 0 none] 0 0, .rd 9 [.o 3 none, .o 3 none] 0 0] [4, 5, 36, 42, 43, 45] (E1 := fun _ => [(4, .val (.pointer (some (⟨nu1 1, 0, none⟩)))), (5, .val (.pointer (some (⟨nu1 2, 0, none⟩)))), (36, .val (.pointer (some (⟨b, 0, none⟩)))), (42, .val (.int .i64 t1)), (43, .val (.agg #[.slice (some (⟨b1, off1, none⟩)) c.when.length c1, .int .i64 c.place, .slice a2 n2 c2])), (45, .val (.agg #[.int .i64 0, .int .i64 (-1)]))]) (h1 := fun _ => [(nu1 0, .cells #[.slice (some (⟨b1, off1, none⟩)) c.when.length c1, .int .i64 c.place, .slice a2 n2 c2] 35 (0, 0)), (nu1 1, .cells #[.int .i64 0, .int .i64 0, .int .i64 0, .int .i64 0, .int .i64 0, .bool false, .slice none 0 0, .int .i64 0, .slice none 0 0] 55 (0, 0)), (nu1 2, .cells #[.int .i64 0, .int .i64 0] 71 (0, 0)), (nu2 0, .cells #[.int .i64 0, .int .i64 (-1)] 71 (0, 0))]) (p1 := fun _ => [(0 : Int) ≤ c.place, c.place < (↑c.when.length : Int), cs1[off1 + c.place.toNat * (1 : Nat)]? = some (Value.int IntKind.i64 t1)]) (W1 := [(8, []), (10, [1]), (11, [2])]) (fun _ => by kernel_rfl) (fun _ => ⟨hp0, hp1, hrd1_0, trivial⟩) (fun _ => ?_)
    refine JR_call [] [1, 0] 41 #[.pointer (some (⟨b, 0, none⟩)), .int .i64 t1, .agg #[.slice (some (⟨b1, off1, none⟩)) c.when.length c1, .int .i64 c.place, .slice a2 n2 c2], .bool false] (some 44) (by kernel_rfl) (by kernel_rfl) (by decide) (fun w S M hP hG _ => ?_)
    refine (rnext (c := c) hP (hG.at 0 rfl) (hG.at 1 rfl) hq0 hq1 hL).mono ?_
    rintro e2 w2 ⟨a', k', c', hR⟩
    refine ⟨_, _, _, hR, ?_⟩
    try simp only [List.cons_append, List.nil_append, List.append_nil]
    refine JR_run (id := 8) (rest := []) [.wr 10 [.o 1 none, .o 1 none, .o 1 none, .o 1 none, .o 1 none, .o 1 none, .o 1 none, .o 1 none, .o 1 none] 0, .wr 11 [.o 2 none, .o 2 none] 0] [4, 5] (E1 := fun _ => [(4, .val (.pointer (some (⟨nu1 1, 0, none⟩)))), (5, .val (.pointer (some (⟨nu1 2, 0, none⟩))))]) (h1 := fun _ => [(nu1 0, .cells #[.slice (some (⟨b1, off1, none⟩)) c.when.length c1, .int .i64 c.place, .slice a2 n2 c2] 35 (0, 0)), (nu1 1, .cells #[.int .i64 fm, .int .i64 to, .int .i64 sh, .int .i64 (q + 1), .int .i64 t1, .bool false, .slice (some (⟨b1, off1, none⟩)) c.when.length c1, .int .i64 c.place, .slice a2 n2 c2] 55 (0, 0)), (nu1 2, .cells #[.int .i64 0, .int .i64 (-1)] 71 (0, 0)), (nu2 0, .cells #[.int .i64 0, .int .i64 (-1)] 71 (0, 0))]) (p1 := fun _ => []) (W1 := []) (fun _ => by kernel_rfl) (fun _ => trivial) (fun _ => ?_)
    try simp only [List.cons_append, List.nil_append, List.append_nil]
    refine JR_end ?_
    try simp only [List.cons_append, List.nil_append, List.append_nil]
    refine J_return [[.o 1 none, .o 1 none, .o 1 none, .o 1 none, .o 1 none, .o 1 none, .o 1 none, .o 1 none, .o 1 none], [.o 2 none, .o 2 none]] (.tuple #[.agg #[.int .i64 fm, .int .i64 to, .int .i64 sh, .int .i64 (q + 1), .int .i64 t1, .bool false, .slice (some (⟨b1, off1, none⟩)) c.when.length c1, .int .i64 c.place, .slice a2 n2 c2], .agg #[.int .i64 0, .int .i64 (-1)]]) (by kernel_rfl) (fun a w s => ?_)
    exact .inr ⟨e, a', k', c', s.ret (by simp) [0, 1] [] rfl rfl⟩
  · have e : scomErr c fm t = comFault c := by rw [scomErr, if_pos hc0]
    rw [e]
    have hpos : ((comFault c).code : Int) > 0 := by omega
    try simp only [List.cons_append, List.nil_append, List.append_nil]
    refine JR_run (id := 1) (rest := []) [.wr 2 [] 0, .wr 3 [.o 4 none, .o 4 none] 0] [0, 3, 4, 5, 6] (E1 := fun nu2 => [(0, .val (.pointer (some (⟨b, 0, none⟩)))), (3, .val (.pointer (some (⟨nu1 0, 0, none⟩)))), (4, .val (.pointer (some (⟨nu1 1, 0, none⟩)))), (5, .val (.pointer (some (⟨nu1 2, 0, none⟩)))), (6, .val (.pointer (some (⟨nu2 0, 0, none⟩))))]) (h1 := fun nu2 => [(b, .cells #[.int .i64 fm, .int .i64 to, .int .i64 sh, .int .i64 q, .int .i64 t, .slice a k cc] 64 (0, 0)), (nu1 0, .cells #[.slice a1 c.when.length c1, .int .i64 c.place, .slice a2 n2 c2] 35 (0, 0)), (nu1 1, .cells #[.int .i64 0, .int .i64 0, .int .i64 0, .int .i64 0, .int .i64 0, .bool false, .slice none 0 0, .int .i64 0, .slice none 0 0] 55 (0, 0)), (nu1 2, .cells #[.int .i64 0, .int .i64 0] 71 (0, 0)), (nu2 0, .cells #[.int .i64 ((↑(comFault c).code : Int)), .int .i64 ((comFault c).at')] 71 (0, 0))]) (p1 := fun nu2 => []) (W1 := []) (fun _ => by kernel_rfl) (fun _ => trivial) (fun nu2 => ?_)
    refine JR_end ?_
    refine J_seq ?_
    refine J_seq ?_
    refine J_reg mixed [.rd 0 [] 0 0, .rd 1 [.o 4 none] 0 0, .rd 2 [] 0 6] [] [0, 3, 4, 5, 6, 11] (E1 := fun _ => [(0, .val (.pointer (some (⟨b, 0, none⟩)))), (3, .val (.pointer (some (⟨nu1 0, 0, none⟩)))), (4, .val (.pointer (some (⟨nu1 1, 0, none⟩)))), (5, .val (.pointer (some (⟨nu1 2, 0, none⟩)))), (6, .val (.pointer (some (⟨nu2 0, 0, none⟩)))), (11, .val (.bool true))]) (h1 := fun _ => [(b, .cells #[.int .i64 fm, .int .i64 to, .int .i64 sh, .int .i64 q, .int .i64 t, .slice a k cc] 64 (0, 0)), (nu1 0, .cells #[.slice a1 c.when.length c1, .int .i64 c.place, .slice a2 n2 c2] 35 (0, 0)), (nu1 1, .cells #[.int .i64 0, .int .i64 0, .int .i64 0, .int .i64 0, .int .i64 0, .bool false, .slice none 0 0, .int .i64 0, .slice none 0 0] 55 (0, 0)), (nu1 2, .cells #[.int .i64 0, .int .i64 0] 71 (0, 0)), (nu2 0, .cells #[.int .i64 ((↑(comFault c).code : Int)), .int .i64 ((comFault c).at')] 71 (0, 0))]) (p1 := fun _ => [decide ((↑(comFault c).code : Int) > (0 : Int)) = true]) (W1 := []) (by kernel_rfl) (fun _ => by kernel_rfl) (fun _ => ⟨by simp; omega, trivial⟩) (fun _ => ?_)
    refine J_cond_t (by kernel_rfl) (by kernel_rfl) ?_
    refine J_seq ?_
    refine J_reg mixed [.rd 0 [] 0 0, .rd 1 [.o 4 none, .o 4 none] 0 0, .wr 2 [.o 2 none, .o 2 none, .o 2 none, .o 2 none, .o 2 none, .o 2 none, .o 2 none, .o 2 none, .o 2 none] 0, .wr 3 [.o 3 none, .o 3 none] 0] [(2, [2]), (3, [3])] [0, 3, 4, 5, 6] (E1 := fun _ => [(0, .val (.pointer (some (⟨b, 0, none⟩)))), (3, .val (.pointer (some (⟨nu1 0, 0, none⟩)))), (4, .val (.pointer (some (⟨nu1 1, 0, none⟩)))), (5, .val (.pointer (some (⟨nu1 2, 0, none⟩)))), (6, .val (.pointer (some (⟨nu2 0, 0, none⟩))))]) (h1 := fun _ => [(b, .cells #[.int .i64 fm, .int .i64 to, .int .i64 sh, .int .i64 q, .int .i64 t, .slice a k cc] 64 (0, 0)), (nu1 0, .cells #[.slice a1 c.when.length c1, .int .i64 c.place, .slice a2 n2 c2] 35 (0, 0)), (nu1 1, .cells #[.int .i64 0, .int .i64 0, .int .i64 0, .int .i64 0, .int .i64 0, .bool false, .slice none 0 0, .int .i64 0, .slice none 0 0] 55 (0, 0)), (nu1 2, .cells #[.int .i64 ((↑(comFault c).code : Int)), .int .i64 ((comFault c).at')] 71 (0, 0)), (nu2 0, .cells #[.int .i64 ((↑(comFault c).code : Int)), .int .i64 ((comFault c).at')] 71 (0, 0))]) (p1 := fun _ => []) (W1 := []) (by kernel_rfl) (fun _ => by kernel_rfl) (fun _ => trivial) (fun _ => ?_)
    refine J_return [[.o 2 none, .o 2 none, .o 2 none, .o 2 none, .o 2 none, .o 2 none, .o 2 none, .o 2 none, .o 2 none], [.o 3 none, .o 3 none]] (.tuple #[.agg #[.int .i64 0, .int .i64 0, .int .i64 0, .int .i64 0, .int .i64 0, .bool false, .slice none 0 0, .int .i64 0, .slice none 0 0], .agg #[.int .i64 ((↑(comFault c).code : Int)), .int .i64 ((comFault c).at')]]) (by kernel_rfl) (fun a w s => ?_)
    exact .inl ⟨hc0, (s.hide 0 rfl).ret (by simp) [1, 0] [] rfl rfl⟩
end Go.Proofs.YtgelnbgjabpdbaaDoor
