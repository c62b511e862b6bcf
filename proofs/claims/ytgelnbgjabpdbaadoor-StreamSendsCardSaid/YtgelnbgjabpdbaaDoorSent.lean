/- sent: a beat goes out. -/
import Derived.Test.YtgelnbgjabpdbaaDoorAgain
namespace Go.Proofs.YtgelnbgjabpdbaaDoor
open Go Go.Sx

theorem sent {w0 : World} {S : Nat → Prop} {er : Nat → Addr} {eb : Nat → Array Value × TypeId} (hC : Rep w0 S .nilIface (dC er eb)) :
    Calls Tryd.prog 7 #[] w0 fun e w' => Ret [] w0 S w' e (.bool true) [] [] := by
  refine ep7 (args := []) (S := S) (G := [(_, dC er eb)]) (by kernel_rfl) (.cons hC (.nil _ _)) ?_
  refine J_seq ?_
  refine J_reg mixed [.rd 0 [] 0 0] [] [0] (E1 := fun _ => [(0, .val (.bool false))]) (h1 := fun _ => []) (p1 := fun _ => []) (W1 := []) (by kernel_rfl) (fun _ => by kernel_rfl) (fun _ => trivial) (fun _ => ?_)
  refine J_seq ?_
  refine JR_begin mixed [(0, false), (1, true), (2, true), (3, true), (4, true), (5, true)] [] (by kernel_rfl) (by kernel_rfl) ?_
  refine JR_callp [] 8 #[.int .i64 0, .int .i64 1, .int .i64 0] (some 5) (by kernel_rfl) (fun w S hG => ?_)
  refine (newSender (globs_of (hG.at 0 rfl)) (by decide)).mono ?_
  rintro e1 w1 ⟨b, hR⟩
  refine ⟨_, _, _, hR, ?_⟩
  try simp only [List.cons_append, List.nil_append, List.append_nil]
  refine JR_run (id := 1) (rest := []) [.rd 1 [] 0 0, .rd 2 [] 0 0, .rd 3 [] 0 0, .rd 4 [] 0 0, .rd 5 [] 0 0] [0, 1, 2] (E1 := fun _ => [(0, .val (.bool false)), (1, .val (.pointer (some (⟨b, 0, none⟩)))), (2, .val (.nilIface))]) (h1 := fun _ => []) (p1 := fun _ => []) (W1 := []) (fun _ => by kernel_rfl) (fun _ => trivial) (fun _ => ?_)
  refine JR_end ?_
  refine J_seq ?_
  refine J_seq ?_
  refine J_reg mixed [.rd 0 [] 0 0, .rd 1 [] 0 0, .rd 2 [] 0 0, .rd 3 [] 0 0, .rd 4 [] 0 0, .rd 5 [] 0 0] [] [0, 1, 2, 13] (E1 := fun _ => [(0, .val (.bool false)), (1, .val (.pointer (some (⟨b, 0, none⟩)))), (2, .val (.nilIface)), (13, .val (.bool false))]) (h1 := fun _ => []) (p1 := fun _ => []) (W1 := []) (by kernel_rfl) (fun _ => by kernel_rfl) (fun _ => trivial) (fun _ => ?_)
  refine J_cond_f (by kernel_rfl) (by kernel_rfl) ?_
  refine J_skip ?_
  refine J_seq ?_
  refine J_stp (stp_accm eMsg 37 9) ?_
  try simp only [List.cons_append, List.nil_append, List.append_nil]
  refine JR_begin mixed [(0, true), (1, false), (2, true), (3, true), (4, true), (5, false), (6, false), (7, true)] [] (by kernel_rfl) (by kernel_rfl) ?_
  refine JR_run (id := 4) (rest := [(1, false), (2, true), (3, true), (4, true), (5, false), (6, false), (7, true)]) [.rd 0 [] 0 0] [0, 1, 2, 15] (E1 := fun _ => [(0, .val (.bool false)), (1, .val (.pointer (some (⟨b, 0, none⟩)))), (2, .val (.nilIface)), (15, .val (.pointer (some (⟨b, 0, none⟩))))]) (h1 := fun _ => []) (p1 := fun _ => []) (W1 := []) (fun _ => by kernel_rfl) (fun _ => trivial) (fun _ => ?_)
  refine JR_call [] [0, 1] 10 #[.pointer (some (⟨b, 0, none⟩)), .int .i64 5] (some 16) (by kernel_rfl) (by kernel_rfl) (by decide) (fun w S M hP hG _ => ?_)
  refine (sbeat (L := []) (hG.at 0 rfl) hP (by omega) (by omega) (by simp)).mono ?_
  rintro e2 w2 (⟨h9, _⟩ | ⟨_, a', k', c', u1, d1, u2, d2, hR2⟩)
  · exact absurd (by decide) h9
  refine ⟨_, _, _, hR2, ?_⟩
  try simp only [List.cons_append, List.nil_append, List.append_nil]
  refine JR_run (id := 4) (rest := []) [.rd 2 [] 0 0, .rd 3 [] 0 0, .rd 4 [] 0 0, .wr 5 [] 0, .wr 6 [.o 0 none, .o 0 none, .o 0 none, .o 0 none, .o 0 none, .o 0 none, .o 0 none, .o 0 none, .o 0 none] 0, .rd 7 [] 0 0] [0, 1, 2, 3] (E1 := fun nu1 => [(0, .val (.bool false)), (1, .val (.pointer (some (⟨b, 0, none⟩)))), (2, .val (.nilIface)), (3, .val (.pointer (some (⟨nu1 0, 0, none⟩))))]) (h1 := fun nu1 => [(nu1 0, .cells #[.int .i64 0, .int .i64 1, .int .i64 0, .int .i64 1, .int .i64 5, .bool true, .slice u1 0 d1, .int .i64 0, .slice u2 0 d2] 37 (0, 0))]) (p1 := fun nu1 => []) (W1 := []) (fun _ => by kernel_rfl) (fun _ => trivial) (fun nu1 => ?_)
  try simp only [List.cons_append, List.nil_append, List.append_nil]
  refine JR_end ?_
  try simp only [List.cons_append, List.nil_append, List.append_nil]
  refine J_seq ?_
  try simp only [List.cons_append, List.nil_append, List.append_nil]
  refine JR_begin mixed [(0, true), (1, true), (2, true), (3, true), (4, true), (5, true), (6, true), (7, true), (8, true), (9, true), (10, true), (11, true), (12, true), (13, true), (14, true), (15, true), (16, true), (17, true), (18, true), (19, true), (20, true), (21, true), (22, true), (23, false), (24, true), (25, true), (26, true), (27, true)] [] (by kernel_rfl) (by kernel_rfl) ?_
  refine JR_run (id := 5) (rest := [(23, false), (24, true), (25, true), (26, true), (27, true)]) [.rd 0 [] 0 0, .rd 1 [] 0 0, .rd 2 [] 0 0, .rd 3 [] 0 0, .rd 4 [.o 0 none] 0 0, .rd 5 [] 0 0, .rd 6 [] 0 0, .rd 7 [] 0 0, .rd 8 [] 0 0, .rd 9 [.o 0 none] 0 0, .rd 10 [] 0 0, .rd 11 [] 0 0, .rd 12 [] 0 0, .rd 13 [] 0 0, .rd 14 [.o 0 none] 0 0, .rd 15 [] 0 0, .rd 16 [] 0 0, .rd 17 [] 0 0, .rd 18 [.o 0 none] 0 0, .rd 19 [] 0 0, .rd 20 [] 0 0, .rd 21 [] 0 0, .rd 22 [] 0 0] [0, 40, 41] (E1 := fun _ => [(0, .val (.bool false)), (40, .val (.bool true)), (41, .val (.pointer (some (⟨b, 0, none⟩))))]) (h1 := fun _ => [(nu1 0, .cells #[.int .i64 0, .int .i64 1, .int .i64 0, .int .i64 1, .int .i64 5, .bool true, .slice u1 0 d1, .int .i64 0, .slice u2 0 d2] 37 (0, 0))]) (p1 := fun _ => []) (W1 := []) (fun _ => by kernel_rfl) (fun _ => trivial) (fun _ => ?_)
  refine JR_call [] [0, 1] 14 #[.pointer (some (⟨b, 0, none⟩))] (some 42) (by kernel_rfl) (by kernel_rfl) (by decide) (fun w S M hP hG _ => ?_)
  refine (sagain (L := [] ++ [(⟨0, 1, 0, 0 + 1, 5, true, ⟨[], 0, []⟩⟩ : MsgT)]) hP (by simp) (by simp [Fit])).mono ?_
  rintro e3 w3 ⟨a4, c4, hR3⟩
  refine ⟨_, _, _, hR3, ?_⟩
  try simp only [List.cons_append, List.nil_append, List.append_nil]
  refine JR_run (id := 5) (rest := []) [.rd 24 [] 0 0, .rd 25 [] 0 0, .rd 26 [] 0 0, .rd 27 [] 0 0] [0] (E1 := fun _ => [(0, .val (.bool true))]) (h1 := fun _ => [(nu1 0, .cells #[.int .i64 0, .int .i64 1, .int .i64 0, .int .i64 1, .int .i64 5, .bool true, .slice u1 0 d1, .int .i64 0, .slice u2 0 d2] 37 (0, 0))]) (p1 := fun _ => []) (W1 := []) (fun _ => by kernel_rfl) (fun _ => trivial) (fun _ => ?_)
  try simp only [List.cons_append, List.nil_append, List.append_nil]
  refine JR_end ?_
  try simp only [List.cons_append, List.nil_append, List.append_nil]
  refine J_return [[]] (.bool true) (by kernel_rfl) (fun a w s => ?_)
  exact s.ret (by simp) [] [] rfl rfl
end Go.Proofs.YtgelnbgjabpdbaaDoor
