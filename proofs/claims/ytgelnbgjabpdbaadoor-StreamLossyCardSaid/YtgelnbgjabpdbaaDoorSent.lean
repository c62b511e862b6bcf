/- Streams: the closed fact 'sent'. -/
import Derived.Test.YtgelnbgjabpdbaaDoorAgain
import Derived.Test.YtgelnbgjabpdbaaDoorBeat2
namespace Go.Proofs.YtgelnbgjabpdbaaDoor
open Go Go.Sx

theorem sent7 {w0 : World} : Calls Tryd.prog 7 #[] w0 fun e w' => e = .returned (.bool true) ∧ Fr [] w0 w' := by
  refine en7 (args := []) (h := []) (r := []) (F := [([], w0)]) (by kernel_rfl) (own_nil (by simp)) (by simp [Fr.refl]) (by simp) ?_
  refine J_seq ?_
  refine J_reg mixed [.rd 0 [] 0 0] [] [0] (E1 := fun _ => [(0, .val (.bool false))]) (h1 := fun _ => []) (p1 := fun _ => []) (W1 := []) (by kernel_rfl) (fun _ => by kernel_rfl) (fun _ => trivial) (fun _ => ?_)
  refine J_seq ?_
  refine JR_begin mixed [(0, false), (1, true), (2, true), (3, true), (4, true), (5, true)] [] (by kernel_rfl) (by kernel_rfl) ?_
  refine JR_call [] [] 8 #[.int .i64 0, .int .i64 1, .int .i64 0] (some 5) (by kernel_rfl) (by kernel_rfl) (fun a w s => ?_)
  refine (newSender_ok 0 1 0 (by decide) (by decide) (by decide) (by decide) (by decide) (by decide) (by decide)).mono ?_
  rintro e w1 ⟨b, rfl, hf, hb, hblk⟩
  have D := did_new1 s hf hblk hb
  refine ⟨_, _, rfl, D.1, D.2, ?_⟩
  refine JR_run (id := 1) (rest := []) [.rd 1 [] 0 0, .rd 2 [] 0 0, .rd 3 [] 0 0, .rd 4 [] 0 0, .rd 5 [] 0 0] [0, 1, 2] (E1 := fun _ => [(0, .val (.bool false)), (1, .val (.pointer (some (⟨b, 0, none⟩)))), (2, .val (.nilIface))]) (h1 := fun _ => [(b, .cells #[.int .i64 0, .int .i64 1, .int .i64 0, .int .i64 0, .int .i64 0, .slice none 0 0] 86 (0, 0))]) (p1 := fun _ => []) (W1 := []) (fun _ => by kernel_rfl) (fun _ => trivial) (fun _ => ?_)
  refine JR_end ?_
  refine J_seq ?_
  refine J_seq ?_
  refine J_reg mixed [.rd 0 [] 0 0, .rd 1 [] 0 0, .rd 2 [] 0 0, .rd 3 [] 0 0, .rd 4 [] 0 0, .rd 5 [] 0 0] [] [0, 1, 2, 13] (E1 := fun _ => [(0, .val (.bool false)), (1, .val (.pointer (some (⟨b, 0, none⟩)))), (2, .val (.nilIface)), (13, .val (.bool false))]) (h1 := fun _ => [(b, .cells #[.int .i64 0, .int .i64 1, .int .i64 0, .int .i64 0, .int .i64 0, .slice none 0 0] 86 (0, 0))]) (p1 := fun _ => []) (W1 := []) (by kernel_rfl) (fun _ => by kernel_rfl) (fun _ => trivial) (fun _ => ?_)
  refine J_cond_f (by kernel_rfl) (by kernel_rfl) ?_
  refine J_skip ?_
  refine J_seq ?_
  refine JR_begin mixed [(0, true), (1, false), (2, true), (3, true), (4, true), (5, false), (6, false), (7, true)] [] (by kernel_rfl) (by kernel_rfl) ?_
  refine JR_run (id := 4) (rest := [(1, false), (2, true), (3, true), (4, true), (5, false), (6, false), (7, true)]) [.rd 0 [] 0 0] [0, 1, 2, 15] (E1 := fun _ => [(0, .val (.bool false)), (1, .val (.pointer (some (⟨b, 0, none⟩)))), (2, .val (.nilIface)), (15, .val (.pointer (some (⟨b, 0, none⟩))))]) (h1 := fun _ => [(b, .cells #[.int .i64 0, .int .i64 1, .int .i64 0, .int .i64 0, .int .i64 0, .slice none 0 0] 86 (0, 0))]) (p1 := fun _ => []) (W1 := []) (fun _ => by kernel_rfl) (fun _ => trivial) (fun _ => ?_)
  refine JR_call [] [0] 10 #[.pointer (some (⟨b, 0, none⟩)), .int .i64 5] (some 16) (by kernel_rfl) (by kernel_rfl) (fun a w s => ?_)
  refine (beat10nil (q := 1) rfl (by decide) (by decide) (by decide) (by decide) (by decide) (s.at 0 rfl)).mono ?_
  rintro e w2 ⟨rfl, hf2, g, cap, cur, hg0, hb2, hg2, hrow⟩
  have D := did_turn1 s hf2 0 rfl hb2 [(g, .cells cur 37 (0, 0))] (by simp [hg0, hg2]) (by simp)
  refine ⟨_, _, rfl, D.1, D.2, ?_⟩
  refine JR_run (id := 4) (rest := []) [.rd 2 [] 0 0, .rd 3 [] 0 0, .rd 4 [] 0 0, .wr 5 [] 0, .wr 6 [.o 2 none, .o 2 none, .o 2 none, .o 2 none, .o 2 none, .o 2 none, .o 2 none, .o 2 none, .o 2 none] 0, .rd 7 [] 0 0] [0, 1, 2, 3] (E1 := fun nu1 => [(0, .val (.bool false)), (1, .val (.pointer (some (⟨b, 0, none⟩)))), (2, .val (.nilIface)), (3, .val (.pointer (some (⟨nu1 0, 0, none⟩))))]) (h1 := fun nu1 => [(b, .cells #[.int .i64 0, .int .i64 1, .int .i64 0, .int .i64 1, .int .i64 5, .slice (some (⟨g, 0, none⟩)) 1 cap] 86 (0, 0)), (g, .cells cur 37 (0, 0)), (nu1 0, .cells #[.int .i64 0, .int .i64 1, .int .i64 0, .int .i64 1, .int .i64 5, .bool true, .slice none 0 0, .int .i64 0, .slice none 0 0] 37 (0, 0))]) (p1 := fun nu1 => []) (W1 := []) (fun _ => by kernel_rfl) (fun _ => trivial) (fun nu1 => ?_)
  refine JR_end ?_
  refine J_seq ?_
  refine JR_begin mixed [(0, true), (1, true), (2, true), (3, true), (4, true), (5, true), (6, true), (7, true), (8, true), (9, true), (10, true), (11, true), (12, true), (13, true), (14, true), (15, true), (16, true), (17, true), (18, true), (19, true), (20, true), (21, true), (22, true), (23, false), (24, true), (25, true), (26, true), (27, true)] [] (by kernel_rfl) (by kernel_rfl) ?_
  refine JR_run (id := 5) (rest := [(23, false), (24, true), (25, true), (26, true), (27, true)]) [.rd 0 [] 0 0, .rd 1 [] 0 0, .rd 2 [] 0 0, .rd 3 [] 0 0, .rd 4 [.o 2 none] 0 0, .rd 5 [] 0 0, .rd 6 [] 0 0, .rd 7 [] 0 0, .rd 8 [] 0 0, .rd 9 [.o 2 none] 0 0, .rd 10 [] 0 0, .rd 11 [] 0 0, .rd 12 [] 0 0, .rd 13 [] 0 0, .rd 14 [.o 2 none] 0 0, .rd 15 [] 0 0, .rd 16 [] 0 0, .rd 17 [] 0 0, .rd 18 [.o 2 none] 0 0, .rd 19 [] 0 0, .rd 20 [] 0 0, .rd 21 [] 0 0, .rd 22 [] 0 0] [0, 40, 41] (E1 := fun _ => [(0, .val (.bool false)), (40, .val (.bool true)), (41, .val (.pointer (some (⟨b, 0, none⟩))))]) (h1 := fun _ => [(b, .cells #[.int .i64 0, .int .i64 1, .int .i64 0, .int .i64 1, .int .i64 5, .slice (some (⟨g, 0, none⟩)) 1 cap] 86 (0, 0)), (g, .cells cur 37 (0, 0)), (nu1 0, .cells #[.int .i64 0, .int .i64 1, .int .i64 0, .int .i64 1, .int .i64 5, .bool true, .slice none 0 0, .int .i64 0, .slice none 0 0] 37 (0, 0))]) (p1 := fun _ => []) (W1 := []) (fun _ => by kernel_rfl) (fun _ => trivial) (fun _ => ?_)
  refine JR_call [] [] 14 #[.pointer (some (⟨b, 0, none⟩))] (some 42) (by kernel_rfl) (by kernel_rfl) (fun a w s => ?_)
  refine (again14 (l := [(1, 5)]) (by decide) (by simp) (s.at 0 rfl) (s.at 1 rfl) hrow).mono ?_
  rintro e w3 ⟨g', cap', cur', rfl, hf3, hg0', hg3, hrow3⟩
  have D := did_new1 s hf3 hg3 hg0'
  refine ⟨_, _, rfl, D.1, D.2, ?_⟩
  refine JR_run (id := 5) (rest := []) [.rd 24 [] 0 0, .rd 25 [] 0 0, .rd 26 [] 0 0, .rd 27 [] 0 0] [0] (E1 := fun _ => [(0, .val (.bool true))]) (h1 := fun _ => [(b, .cells #[.int .i64 0, .int .i64 1, .int .i64 0, .int .i64 1, .int .i64 5, .slice (some (⟨g, 0, none⟩)) 1 cap] 86 (0, 0)), (g, .cells cur 37 (0, 0)), (nu1 0, .cells #[.int .i64 0, .int .i64 1, .int .i64 0, .int .i64 1, .int .i64 5, .bool true, .slice none 0 0, .int .i64 0, .slice none 0 0] 37 (0, 0)), (g', .cells cur' 37 (0, 0))]) (p1 := fun _ => []) (W1 := []) (fun _ => by kernel_rfl) (fun _ => trivial) (fun _ => ?_)
  refine JR_end ?_
  refine J_return [[]] (.bool true) (by kernel_rfl) (fun a w s => ?_)
  exact ⟨rfl, s.fr ([], w0) (by simp)⟩
end Go.Proofs.YtgelnbgjabpdbaaDoor
