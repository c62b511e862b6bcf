/- For StreamSends: an owned row lent for a call; NewSender, NewReceiver that fail. -/
import Derived.Test.YtgelnbgjabpdbaaDoorRSend2
namespace Go.Proofs.YtgelnbgjabpdbaaDoor
open Go Go.Sx

theorem lendAcc {P : Program} {fid : FuncId} {args : Array Value} {w : World} {S : Nat → Prop} {M : List Nat} {v r : Value} {e k : Nat} {rows : List (List D)} {G : List (Value × D)} (hP : Pre w S M [cAcc v e k rows]) (hG : AllG w S G)
    (H : ∀ S', AllG w S' (G ++ [(v, .sl k rows)]) → Calls P fid args w fun en w' => Ret [] w S' w' en r [] []) : Calls P fid args w fun en w' => Ret M w S w' en r [cAcc v e k rows] [] := by
  obtain ⟨fps, hch, rfl, hnd, hM⟩ := hP
  match fps, hch with
  | [fp], ⟨hc, _⟩ =>
    have hfl : ([fp] : List (List Nat)).flatten = fp := by simp
    rw [hfl] at hnd hM ⊢
    refine (H (fun b => S b ∨ b ∈ fp) ?_).mono fun en w' hR => ?_
    · intro x hx
      rcases List.mem_append.1 hx with hx | hx
      · exact (hG x hx).wide fun b hb _ => .inl hb
      · rw [List.mem_singleton] at hx
        subst hx
        obtain ⟨hk, hP⟩ := hc
        rcases hP with ⟨rfl, rfl, _⟩ | ⟨g, cap, cur, xs, rfl, rfl, hg, hrow, hR⟩
        · exact .nil
        · refine Rep.of_row hg (.inr (by simp)) hrow hk hR.len fun i j row d h1 h2 => ?_
          obtain ⟨u, hu, hr⟩ := hR.rep i j row d h1 h2
          exact ⟨u, hu, hr.wide fun b hb _ => .inl hb⟩
    · have hf := hR.fr
      refine ⟨hR.ret, hf.mono (by simp), [fp], ⟨(cAcc v e k rows).mono hc (fun b hb => hf.block b (hM b hb).1 (by simp)) fun b hb hlt => ⟨⟨.inl hb, fun hm => (hM b (by simpa using hm)).2 hb⟩, hf.block b hlt (by simp)⟩, trivial⟩, by simpa using hnd, fun b hb => ?_, by simp⟩
      have hb' : b ∈ fp := by simpa using hb
      exact ⟨.inl hb', Nat.lt_of_lt_of_le (hM b hb').1 hf.size⟩
  | [], h => exact h.elim
  | _ :: _ :: _, h => exact h.2.elim

theorem newSenderE {w0 : World} {S : Nat → Prop} {er : Nat → Addr} {fm to sh : Int} (hE : AllG w0 S (globs er)) (h0 : wayErr fm to sh ≠ 0) :
    Calls Tryd.prog 8 #[.int .i64 fm, .int .i64 to, .int .i64 sh] w0 fun e w' => Ret [] w0 S w' e (.tuple #[.pointer none, errV 168 er (wayErr fm to sh)]) [] [] := by
  refine ep8 (args := [.int .i64 fm, .int .i64 to, .int .i64 sh]) (G := globs er) (by kernel_rfl) hE ?_
  refine J_seq ?_
  refine J_reg mixed [.rd 0 [] 0 0, .rd 1 [] 0 0] [] [0, 1, 2, 6, 7] (E1 := fun _ => [(0, .val (.int .i64 fm)), (1, .val (.int .i64 to)), (2, .val (.int .i64 sh)), (6, .val (.pointer none)), (7, .val (.nilIface))]) (h1 := fun _ => []) (p1 := fun _ => []) (W1 := []) (by kernel_rfl) (fun _ => by kernel_rfl) (fun _ => trivial) (fun _ => ?_)
  refine J_seq ?_
  refine JR_begin mixed [(0, true), (1, true), (2, true), (3, false), (4, true), (5, true), (6, true), (7, false), (8, false), (9, true)] [] (by kernel_rfl) (by kernel_rfl) ?_
  refine JR_run (id := 1) (rest := [(3, false), (4, true), (5, true), (6, true), (7, false), (8, false), (9, true)]) [.rd 0 [] 0 0, .rd 1 [] 0 0, .rd 2 [] 0 0] [6, 7, 11, 12, 13] (E1 := fun _ => [(6, .val (.pointer none)), (7, .val (.nilIface)), (11, .val (.int .i64 fm)), (12, .val (.int .i64 to)), (13, .val (.int .i64 sh))]) (h1 := fun _ => []) (p1 := fun _ => []) (W1 := []) (fun _ => by kernel_rfl) (fun _ => trivial) (fun _ => ?_)
  refine JR_callp [] 32 #[.int .i64 fm, .int .i64 to, .int .i64 sh] (some 14) (by kernel_rfl) (fun w S hG => ?_)
  refine (newWay (hG.pick [0, 1, 2] rfl)).mono ?_
  rintro e1 w1 (⟨h1, hR⟩ | ⟨h1, hR⟩)
  · refine ⟨_, _, _, hR, ?_⟩
    try simp only [List.cons_append, List.nil_append, List.append_nil]
    refine JR_run (id := 1) (rest := []) [.rd 4 [] 0 0, .rd 5 [] 0 0, .rd 6 [] 0 0, .wr 7 [] 0, .wr 8 [.o 0 none, .o 0 none, .o 0 none] 0, .rd 9 [] 0 0] [6, 7, 8, 9] (E1 := fun nu1 => [(6, .val (.pointer none)), (7, .val (.nilIface)), (8, .val (.pointer (some (⟨nu1 0, 0, none⟩)))), (9, .val (.iface 168 (.pointer (some (er (wayErr fm to sh))))))]) (h1 := fun nu1 => [(nu1 0, .cells #[.int .i64 0, .int .i64 0, .int .i64 0] 82 (0, 0))]) (p1 := fun nu1 => []) (W1 := []) (fun _ => by kernel_rfl) (fun _ => trivial) (fun nu1 => ?_)
    refine JR_end ?_
    refine J_seq ?_
    refine J_seq ?_
    refine J_reg mixed [.rd 0 [] 0 0, .rd 1 [] 0 0] [] [6, 7, 8, 9, 18] (E1 := fun _ => [(6, .val (.pointer none)), (7, .val (.nilIface)), (8, .val (.pointer (some (⟨nu1 0, 0, none⟩)))), (9, .val (.iface 168 (.pointer (some (er (wayErr fm to sh)))))), (18, .val (.bool true))]) (h1 := fun _ => [(nu1 0, .cells #[.int .i64 0, .int .i64 0, .int .i64 0] 82 (0, 0))]) (p1 := fun _ => []) (W1 := []) (by kernel_rfl) (fun _ => by kernel_rfl) (fun _ => trivial) (fun _ => ?_)
    refine J_cond_t (by kernel_rfl) (by kernel_rfl) ?_
    refine J_seq ?_
    refine J_reg mixed [.rd 0 [] 0 0, .rd 1 [] 0 0, .rd 2 [] 0 0] [] [6, 7, 8] (E1 := fun _ => [(6, .val (.pointer none)), (7, .val (.iface 168 (.pointer (some (er (wayErr fm to sh)))))), (8, .val (.pointer (some (⟨nu1 0, 0, none⟩))))]) (h1 := fun _ => [(nu1 0, .cells #[.int .i64 0, .int .i64 0, .int .i64 0] 82 (0, 0))]) (p1 := fun _ => []) (W1 := []) (by kernel_rfl) (fun _ => by kernel_rfl) (fun _ => trivial) (fun _ => ?_)
    refine J_return [[], []] (.tuple #[.pointer none, .iface 168 (.pointer (some (er (wayErr fm to sh))))]) (by kernel_rfl) (fun a w s => ?_)
    exact s.ret (by simp) [] [] rfl rfl
  · exact absurd h1 h0
theorem newReceiverE {w0 : World} {S : Nat → Prop} {er : Nat → Addr} {fm to sh : Int} (hE : AllG w0 S (globs er)) (h0 : wayErr fm to sh ≠ 0) :
    Calls Tryd.prog 9 #[.int .i64 fm, .int .i64 to, .int .i64 sh] w0 fun e w' => Ret [] w0 S w' e (.tuple #[.pointer none, errV 168 er (wayErr fm to sh)]) [] [] := by
  refine ep9 (args := [.int .i64 fm, .int .i64 to, .int .i64 sh]) (G := globs er) (by kernel_rfl) hE ?_
  refine J_seq ?_
  refine J_reg mixed [.rd 0 [] 0 0, .rd 1 [] 0 0] [] [0, 1, 2, 6, 7] (E1 := fun _ => [(0, .val (.int .i64 fm)), (1, .val (.int .i64 to)), (2, .val (.int .i64 sh)), (6, .val (.pointer none)), (7, .val (.nilIface))]) (h1 := fun _ => []) (p1 := fun _ => []) (W1 := []) (by kernel_rfl) (fun _ => by kernel_rfl) (fun _ => trivial) (fun _ => ?_)
  refine J_seq ?_
  refine JR_begin mixed [(0, true), (1, true), (2, true), (3, false), (4, true), (5, true), (6, true), (7, false), (8, false), (9, true)] [] (by kernel_rfl) (by kernel_rfl) ?_
  refine JR_run (id := 1) (rest := [(3, false), (4, true), (5, true), (6, true), (7, false), (8, false), (9, true)]) [.rd 0 [] 0 0, .rd 1 [] 0 0, .rd 2 [] 0 0] [6, 7, 11, 12, 13] (E1 := fun _ => [(6, .val (.pointer none)), (7, .val (.nilIface)), (11, .val (.int .i64 fm)), (12, .val (.int .i64 to)), (13, .val (.int .i64 sh))]) (h1 := fun _ => []) (p1 := fun _ => []) (W1 := []) (fun _ => by kernel_rfl) (fun _ => trivial) (fun _ => ?_)
  refine JR_callp [] 32 #[.int .i64 fm, .int .i64 to, .int .i64 sh] (some 14) (by kernel_rfl) (fun w S hG => ?_)
  refine (newWay (hG.pick [0, 1, 2] rfl)).mono ?_
  rintro e1 w1 (⟨h1, hR⟩ | ⟨h1, hR⟩)
  · refine ⟨_, _, _, hR, ?_⟩
    try simp only [List.cons_append, List.nil_append, List.append_nil]
    refine JR_run (id := 1) (rest := []) [.rd 4 [] 0 0, .rd 5 [] 0 0, .rd 6 [] 0 0, .wr 7 [] 0, .wr 8 [.o 0 none, .o 0 none, .o 0 none] 0, .rd 9 [] 0 0] [6, 7, 8, 9] (E1 := fun nu1 => [(6, .val (.pointer none)), (7, .val (.nilIface)), (8, .val (.pointer (some (⟨nu1 0, 0, none⟩)))), (9, .val (.iface 168 (.pointer (some (er (wayErr fm to sh))))))]) (h1 := fun nu1 => [(nu1 0, .cells #[.int .i64 0, .int .i64 0, .int .i64 0] 82 (0, 0))]) (p1 := fun nu1 => []) (W1 := []) (fun _ => by kernel_rfl) (fun _ => trivial) (fun nu1 => ?_)
    refine JR_end ?_
    refine J_seq ?_
    refine J_seq ?_
    refine J_reg mixed [.rd 0 [] 0 0, .rd 1 [] 0 0] [] [6, 7, 8, 9, 18] (E1 := fun _ => [(6, .val (.pointer none)), (7, .val (.nilIface)), (8, .val (.pointer (some (⟨nu1 0, 0, none⟩)))), (9, .val (.iface 168 (.pointer (some (er (wayErr fm to sh)))))), (18, .val (.bool true))]) (h1 := fun _ => [(nu1 0, .cells #[.int .i64 0, .int .i64 0, .int .i64 0] 82 (0, 0))]) (p1 := fun _ => []) (W1 := []) (by kernel_rfl) (fun _ => by kernel_rfl) (fun _ => trivial) (fun _ => ?_)
    refine J_cond_t (by kernel_rfl) (by kernel_rfl) ?_
    refine J_seq ?_
    refine J_reg mixed [.rd 0 [] 0 0, .rd 1 [] 0 0, .rd 2 [] 0 0] [] [6, 7, 8] (E1 := fun _ => [(6, .val (.pointer none)), (7, .val (.iface 168 (.pointer (some (er (wayErr fm to sh)))))), (8, .val (.pointer (some (⟨nu1 0, 0, none⟩))))]) (h1 := fun _ => [(nu1 0, .cells #[.int .i64 0, .int .i64 0, .int .i64 0] 82 (0, 0))]) (p1 := fun _ => []) (W1 := []) (by kernel_rfl) (fun _ => by kernel_rfl) (fun _ => trivial) (fun _ => ?_)
    refine J_return [[], []] (.tuple #[.pointer none, .iface 168 (.pointer (some (er (wayErr fm to sh))))]) (by kernel_rfl) (fun a w s => ?_)
    exact s.ret (by simp) [] [] rfl rfl
  · exact absurd h1 h0
structure ActT where
  kind : ByteArray
  c : ComT
  n : Int
abbrev eAct (a : ActT) : List D := [.v (.string a.kind), .sl 1 (a.c.when.map eI), dI a.c.place, .sl 7 (a.c.ops.map eOp), dI a.n]
end Go.Proofs.YtgelnbgjabpdbaaDoor
