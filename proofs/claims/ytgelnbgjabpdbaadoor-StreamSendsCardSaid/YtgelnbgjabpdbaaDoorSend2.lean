/- stream: Beat, Again. -/
import Derived.Test.YtgelnbgjabpdbaaDoorSend
namespace Go.Proofs.YtgelnbgjabpdbaaDoor
open Go Go.Sx

def beatErr (t time : Int) : Nat := if time < 0 ∨ 1099511627776 < time then 2 else if time < t then 9 else 0
theorem sbeat {w0 : World} {S : Nat → Prop} {M : List Nat} {er : Nat → Addr} {eb : Nat → Array Value × TypeId} {b : Nat} {fm to sh q t time : Int} {a : Option Addr} {k cc : Nat} {L : List MsgT} (hC : Rep w0 S .nilIface (dC er eb))
    (hP : Pre w0 S M [cObj b (sCells fm to sh q t (.slice a k cc)), cAcc (.slice a k cc) 37 9 (L.map eMsg)]) (hq0 : 0 ≤ q) (hq1 : q < 1000000) (hL : L.length < 1000000) :
    Calls Tryd.prog 10 #[.pointer (some ⟨b, 0, none⟩), .int .i64 time] w0 fun e w' =>
      (beatErr t time ≠ 0 ∧ Ret M w0 S w' e (.tuple #[.agg #[.int .i64 0, .int .i64 0, .int .i64 0, .int .i64 0, .int .i64 0, .bool false, .slice none 0 0, .int .i64 0, .slice none 0 0], errV 168 er (beatErr t time)])
        [cObj b (sCells fm to sh q t (.slice a k cc)), cAcc (.slice a k cc) 37 9 (L.map eMsg)] []) ∨
      (beatErr t time = 0 ∧ ∃ a' k' c' u1 d1 u2 d2,
      Ret M w0 S w' e (.tuple #[.agg #[.int .i64 fm, .int .i64 to, .int .i64 sh, .int .i64 (q + 1), .int .i64 time, .bool true, .slice u1 0 d1, .int .i64 0, .slice u2 0 d2], .nilIface])
        [cObj b (sCells fm to sh (q + 1) time (.slice a' k' c')), cAcc (.slice a' k' c') 37 9 ((L ++ [(⟨fm, to, sh, q + 1, time, true, ⟨[], 0, []⟩⟩ : MsgT)]).map eMsg)] [(.slice u1 0 d1, dInts []), (.slice u2 0 d2, .sl 7 (([] : List OpT).map eOp))]) := by
  refine en10 (args := [.pointer (some ⟨b, 0, none⟩), .int .i64 time]) (S := S) (C := [cObj b (sCells fm to sh q t (.slice a k cc)), cAcc (.slice a k cc) 37 9 (L.map eMsg)]) (G := [(_, dC er eb)]) (by kernel_rfl) hP (.cons hC (.nil _ _)) ?_
  refine J_show 0 rfl ?_
  refine J_stp (stp_all 0 [1, 8] rfl rfl) ?_
  refine J_glob 1 rfl (fun csg1 tyg1 fzg1 hglob1 => ?_)
  refine J_glob 2 rfl (fun csg2 tyg2 fzg2 hglob2 => ?_)
  try simp only [List.cons_append, List.nil_append, List.append_nil]
  refine J_seq ?_
  refine J_reg mixed [.wr 0 [] 0, .rd 1 [] 0 0] [] [0, 1, 4, 5] (E1 := fun nu1 => [(0, .val (.pointer (some (⟨b, 0, none⟩)))), (1, .val (.int .i64 time)), (4, .val (.pointer (some (⟨nu1 0, 0, none⟩)))), (5, .val (.nilIface))]) (h1 := fun nu1 => [(b, .cells #[.int .i64 fm, .int .i64 to, .int .i64 sh, .int .i64 q, .int .i64 t, .slice a k cc] 86 (0, 0)), (nu1 0, .cells #[.int .i64 0, .int .i64 0, .int .i64 0, .int .i64 0, .int .i64 0, .bool false, .slice none 0 0, .int .i64 0, .slice none 0 0] 37 (0, 0))]) (p1 := fun nu1 => []) (W1 := []) (by kernel_rfl) (fun _ => by kernel_rfl) (fun _ => trivial) (fun nu1 => ?_)
  refine J_seq ?_
  refine J_block ?_
  refine J_seq ?_
  refine J_reg mixed [.rd 0 [] 0 0, .rd 1 [] 0 0, .rd 2 [] 0 0, .rd 3 [] 2 0, .rd 4 [] 2 0, .rd 5 [] 0 3, .rd 6 [] 0 0] [] [0, 1, 4, 5, 6] (E1 := fun _ => [(0, .val (.pointer (some (⟨b, 0, none⟩)))), (1, .val (.int .i64 time)), (4, .val (.pointer (some (⟨nu1 0, 0, none⟩)))), (5, .val (.nilIface)), (6, .val (.bool (decide (time < 0) || decide (time > 1099511627776))))]) (h1 := fun _ => [(b, .cells #[.int .i64 fm, .int .i64 to, .int .i64 sh, .int .i64 q, .int .i64 t, .slice a k cc] 86 (0, 0)), (nu1 0, .cells #[.int .i64 0, .int .i64 0, .int .i64 0, .int .i64 0, .int .i64 0, .bool false, .slice none 0 0, .int .i64 0, .slice none 0 0] 37 (0, 0))]) (p1 := fun _ => []) (W1 := []) (by kernel_rfl) (fun _ => by kernel_rfl) (fun _ => trivial) (fun _ => ?_)
  refine J_cond (t := decide (time < 0) || decide (time > 1099511627776)) (by kernel_rfl) (by kernel_rfl) (fun hb => ?_) (fun hb => ?_)
  · have e1 : beatErr t time = 2 := by rw [beatErr, if_pos (by simp at hb; omega)]
    refine J_seq ?_
    refine J_reg mixed [.rd 0 [] 0 0, .rd 1 [.r 0 (some (.iface 168 (.pointer (some (er 2)))))] 0 0, .wr 2 [.o 1 none, .o 1 none, .o 1 none, .o 1 none, .o 1 none, .o 1 none, .o 1 none, .o 1 none, .o 1 none] 0, .rd 3 [] 0 0] [(2, [1])] [0, 1, 4, 5] (E1 := fun _ => [(0, .val (.pointer (some (⟨b, 0, none⟩)))), (1, .val (.int .i64 time)), (4, .val (.pointer (some (⟨nu1 0, 0, none⟩)))), (5, .val (.iface 168 (.pointer (some (er 2)))))]) (h1 := fun _ => [(b, .cells #[.int .i64 fm, .int .i64 to, .int .i64 sh, .int .i64 q, .int .i64 t, .slice a k cc] 86 (0, 0)), (nu1 0, .cells #[.int .i64 0, .int .i64 0, .int .i64 0, .int .i64 0, .int .i64 0, .bool false, .slice none 0 0, .int .i64 0, .slice none 0 0] 37 (0, 0))]) (p1 := fun _ => [csg1[(0 : Nat)]? = some (Value.iface (168 : Nat) (Value.pointer (some (er (2 : Nat)))))]) (W1 := []) (by kernel_rfl) (fun _ => by kernel_rfl) (fun _ => ⟨hglob1, trivial⟩) (fun _ => ?_)
    refine J_return [[.o 1 none, .o 1 none, .o 1 none, .o 1 none, .o 1 none, .o 1 none, .o 1 none, .o 1 none, .o 1 none], []] (.tuple #[.agg #[.int .i64 0, .int .i64 0, .int .i64 0, .int .i64 0, .int .i64 0, .bool false, .slice none 0 0, .int .i64 0, .slice none 0 0], .iface 168 (.pointer (some (er 2)))]) (by kernel_rfl) (fun a w s => ?_)
    refine .inl ⟨by rw [e1]; decide, ?_⟩
    rw [e1]
    exact (s.hide 0 rfl).ret (by simp) [1, 0] [] rfl rfl
  · have hn : ¬ (time < 0 ∨ 1099511627776 < time) := by simp at hb; omega
    refine J_seq ?_
    refine J_reg mixed [.rd 0 [] 0 0, .rd 1 [] 0 0, .rd 2 [] 0 0, .rd 3 [] 0 0, .rd 4 [.o 0 none] 0 0, .rd 5 [] 0 0, .rd 6 [] 0 0] [] [0, 1, 4, 5, 15] (E1 := fun _ => [(0, .val (.pointer (some (⟨b, 0, none⟩)))), (1, .val (.int .i64 time)), (4, .val (.pointer (some (⟨nu1 0, 0, none⟩)))), (5, .val (.nilIface)), (15, .val (.bool (decide (time < t))))]) (h1 := fun _ => [(b, .cells #[.int .i64 fm, .int .i64 to, .int .i64 sh, .int .i64 q, .int .i64 t, .slice a k cc] 86 (0, 0)), (nu1 0, .cells #[.int .i64 0, .int .i64 0, .int .i64 0, .int .i64 0, .int .i64 0, .bool false, .slice none 0 0, .int .i64 0, .slice none 0 0] 37 (0, 0))]) (p1 := fun _ => []) (W1 := []) (by kernel_rfl) (fun _ => by kernel_rfl) (fun _ => trivial) (fun _ => ?_)
    refine J_cond (t := decide (time < t)) (by kernel_rfl) (by kernel_rfl) (fun ho => ?_) (fun ho => ?_)
    · have e1 : beatErr t time = 9 := by rw [beatErr, if_neg hn, if_pos (by simpa using ho)]
      refine J_seq ?_
      refine J_reg mixed [.rd 0 [] 0 0, .rd 1 [.r 1 (some (.iface 168 (.pointer (some (er 9)))))] 0 0, .wr 2 [.o 1 none, .o 1 none, .o 1 none, .o 1 none, .o 1 none, .o 1 none, .o 1 none, .o 1 none, .o 1 none] 0, .rd 3 [] 0 0] [(2, [1])] [0, 1, 4, 5] (E1 := fun _ => [(0, .val (.pointer (some (⟨b, 0, none⟩)))), (1, .val (.int .i64 time)), (4, .val (.pointer (some (⟨nu1 0, 0, none⟩)))), (5, .val (.iface 168 (.pointer (some (er 9)))))]) (h1 := fun _ => [(b, .cells #[.int .i64 fm, .int .i64 to, .int .i64 sh, .int .i64 q, .int .i64 t, .slice a k cc] 86 (0, 0)), (nu1 0, .cells #[.int .i64 0, .int .i64 0, .int .i64 0, .int .i64 0, .int .i64 0, .bool false, .slice none 0 0, .int .i64 0, .slice none 0 0] 37 (0, 0))]) (p1 := fun _ => [csg2[(0 : Nat)]? = some (Value.iface (168 : Nat) (Value.pointer (some (er (9 : Nat)))))]) (W1 := []) (by kernel_rfl) (fun _ => by kernel_rfl) (fun _ => ⟨hglob2, trivial⟩) (fun _ => ?_)
      refine J_return [[.o 1 none, .o 1 none, .o 1 none, .o 1 none, .o 1 none, .o 1 none, .o 1 none, .o 1 none, .o 1 none], []] (.tuple #[.agg #[.int .i64 0, .int .i64 0, .int .i64 0, .int .i64 0, .int .i64 0, .bool false, .slice none 0 0, .int .i64 0, .slice none 0 0], .iface 168 (.pointer (some (er 9)))]) (by kernel_rfl) (fun a w s => ?_)
      refine .inl ⟨by rw [e1]; decide, ?_⟩
      rw [e1]
      exact (s.hide 0 rfl).ret (by simp) [1, 0] [] rfl rfl
    · have e1 : beatErr t time = 0 := by rw [beatErr, if_neg hn, if_neg (by simpa using ho)]
      refine J_skip ?_
      refine J_eb ?_
      refine J_seq ?_
      refine J_hide 0 rfl ?_
      try simp only [List.cons_append, List.nil_append, List.append_nil]
      refine JR_begin mixed [(0, true), (1, true), (2, true), (3, false), (4, false), (5, true)] [] (by kernel_rfl) (by kernel_rfl) ?_
      refine JR_run (id := 5) (rest := [(3, false), (4, false), (5, true)]) [.rd 0 [] 0 0, .rd 1 [] 0 0, .rd 2 [] 0 0] [4, 5, 24, 25, 26] (E1 := fun _ => [(4, .val (.pointer (some (⟨nu1 0, 0, none⟩)))), (5, .val (.nilIface)), (24, .val (.pointer (some (⟨b, 0, none⟩)))), (25, .val (.int .i64 time)), (26, .val (.agg #[.slice none 0 0, .int .i64 0, .slice none 0 0]))]) (h1 := fun _ => [(nu1 0, .cells #[.int .i64 0, .int .i64 0, .int .i64 0, .int .i64 0, .int .i64 0, .bool false, .slice none 0 0, .int .i64 0, .slice none 0 0] 37 (0, 0))]) (p1 := fun _ => []) (W1 := []) (fun _ => by kernel_rfl) (fun _ => trivial) (fun _ => ?_)
      refine JR_call [] [1, 0] 33 #[.pointer (some (⟨b, 0, none⟩)), .int .i64 time, .agg #[.slice none 0 0, .int .i64 0, .slice none 0 0], .bool true] (some 27) (by kernel_rfl) (by kernel_rfl) (by decide) (fun w S M hP hG _ => ?_)
      refine (snext (c := ⟨[], 0, []⟩) hP .nil .nil (by simp) (by simp) (by simp) hq0 hq1 hL).mono ?_
      rintro e2 w2 ⟨a', k', c', u1, d1, u2, d2, hR⟩
      refine ⟨_, _, _, hR, ?_⟩
      try simp only [List.cons_append, List.nil_append, List.append_nil]
      refine JR_run (id := 5) (rest := []) [.wr 4 [.o 0 none, .o 0 none, .o 0 none, .o 0 none, .o 0 none, .o 0 none, .o 0 none, .o 0 none, .o 0 none] 0, .rd 5 [] 0 0] [4, 5] (E1 := fun _ => [(4, .val (.pointer (some (⟨nu1 0, 0, none⟩)))), (5, .val (.nilIface))]) (h1 := fun _ => [(nu1 0, .cells #[.int .i64 fm, .int .i64 to, .int .i64 sh, .int .i64 (q + 1), .int .i64 time, .bool true, .slice u1 0 d1, .int .i64 0, .slice u2 0 d2] 37 (0, 0))]) (p1 := fun _ => []) (W1 := []) (fun _ => by kernel_rfl) (fun _ => trivial) (fun _ => ?_)
      try simp only [List.cons_append, List.nil_append, List.append_nil]
      refine JR_end ?_
      try simp only [List.cons_append, List.nil_append, List.append_nil]
      refine J_return [[.o 0 none, .o 0 none, .o 0 none, .o 0 none, .o 0 none, .o 0 none, .o 0 none, .o 0 none, .o 0 none], []] (.tuple #[.agg #[.int .i64 fm, .int .i64 to, .int .i64 sh, .int .i64 (q + 1), .int .i64 time, .bool true, .slice u1 0 d1, .int .i64 0, .slice u2 0 d2], .nilIface]) (by kernel_rfl) (fun a w s => ?_)
      exact .inr ⟨e1, a', k', c', u1, d1, u2, d2, s.ret (by simp) [0, 1] [3, 4] rfl rfl⟩
end Go.Proofs.YtgelnbgjabpdbaaDoor
