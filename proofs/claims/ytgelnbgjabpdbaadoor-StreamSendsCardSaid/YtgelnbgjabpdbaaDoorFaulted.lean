/- causewaylaw2.faulted, of the errors of a commit. -/
import Derived.Test.YtgelnbgjabpdbaaDoorComErr2
namespace Go.Proofs.YtgelnbgjabpdbaaDoor
open Go Go.Sx

theorem faultedErr {w : World} {S : Nat → Prop} {er : Nat → Addr} {eb : Nat → Array Value × TypeId} {k : Nat} {a : Int} {v : Value} (hC : Rep w S .nilIface (dC er eb)) (hI : Inj er) (hk : k ≤ 12) (hv : ErrIs 168 er k v) (ha : a = -1) :
    Calls Tryd.prog 27 #[v, .agg #[.int .i64 k, .int .i64 a]] w fun e w' => Ret [] w S w' e (.bool true) [] [] := by
  subst ha
  have hv1 : v.oneCell' = true := by rcases hv with ⟨_, rfl⟩ | ⟨_, rfl⟩ <;> rfl
  refine ep27 (args := [v, .agg #[.int .i64 k, .int .i64 (-1)]]) (G := [(_, dC er eb)]) (by kernel_rfl) (.cons hC (.nil _ _)) ?_
  refine J_seq ?_
  refine J_reg mixed [.wr 0 [] 0, .rd 1 [] 0 0] [] [0, 3, 4] (E1 := fun nu1 => [(0, .val (v)), (3, .val (.pointer (some (⟨nu1 0, 0, none⟩)))), (4, .val (.bool false))]) (h1 := fun nu1 => [(nu1 0, .cells #[.int .i64 (↑k : Int), .int .i64 (-1)] 71 (0, 0))]) (p1 := fun nu1 => []) (W1 := []) (by kernel_rfl) (fun _ => by kernel_rfl) (fun _ => trivial) (fun nu1 => ?_)
  refine J_seq ?_
  refine JR_begin mixed [(0, true), (1, false), (2, true), (3, true), (4, true), (5, true), (6, true)] [] (by kernel_rfl) (by kernel_rfl) ?_
  refine JR_run (id := 1) (rest := [(1, false), (2, true), (3, true), (4, true), (5, true), (6, true)]) [.rd 0 [] 0 0] [3, 4, 8] (E1 := fun _ => [(3, .val (.pointer (some (⟨nu1 0, 0, none⟩)))), (4, .val (.bool false)), (8, .val (v))]) (h1 := fun _ => [(nu1 0, .cells #[.int .i64 (↑k : Int), .int .i64 (-1)] 71 (0, 0))]) (p1 := fun _ => []) (W1 := []) (fun _ => by kernel_rfl) (fun _ => trivial) (fun _ => ?_)
  refine JR_callp [] 37 #[v] (some 9) (by kernel_rfl) (fun w S hG => ?_)
  refine (codeErr (hG.at 0 rfl) hI hk hv).mono ?_
  rintro e1 w1 hR
  refine ⟨_, _, _, hR, ?_⟩
  by_cases h0 : k = 0
  · subst h0
    try simp only [List.cons_append, List.nil_append, List.append_nil]
    refine JR_run (id := 1) (rest := []) [.rd 2 [] 0 0, .rd 3 [] 0 0, .rd 4 [] 0 0, .rd 5 [] 0 0, .rd 6 [] 0 0] [3, 4, 5, 6] (E1 := fun _ => [(3, .val (.pointer (some (⟨nu1 0, 0, none⟩)))), (4, .val (.bool false)), (5, .val (.int .i64 0)), (6, .val (.int .i64 (-1)))]) (h1 := fun _ => [(nu1 0, .cells #[.int .i64 0, .int .i64 (-1)] 71 (0, 0))]) (p1 := fun _ => []) (W1 := []) (fun _ => by kernel_rfl) (fun _ => trivial) (fun _ => ?_)
    refine JR_end ?_
    refine J_seq ?_
    refine J_reg mixed [.rd 0 [] 0 0, .rd 1 [] 0 0, .rd 2 [.o 0 none] 0 0, .rd 3 [] 0 0, .rd 4 [] 0 0, .rd 5 [] 0 0, .rd 6 [] 0 0, .rd 7 [] 0 0, .rd 8 [] 1 0, .rd 9 [] 1 0, .rd 10 [] 1 0, .rd 11 [] 1 0, .rd 12 [] 0 0, .rd 13 [] 0 0, .rd 14 [] 0 0] [] [4] (E1 := fun _ => [(4, .val (.bool true))]) (h1 := fun _ => [(nu1 0, .cells #[.int .i64 0, .int .i64 (-1)] 71 (0, 0))]) (p1 := fun _ => []) (W1 := []) (by kernel_rfl) (fun _ => by kernel_rfl) (fun _ => trivial) (fun _ => ?_)
    refine J_return [[]] (.bool true) (by kernel_rfl) (fun a w s => ?_)
    exact s.ret (by simp) [] [] rfl rfl
  · try simp only [List.cons_append, List.nil_append, List.append_nil]
    refine JR_run (id := 1) (rest := []) [.rd 2 [] 0 0, .rd 3 [] 0 0, .rd 4 [] 0 0, .rd 5 [] 0 0, .rd 6 [] 0 0] [3, 4, 5, 6] (E1 := fun _ => [(3, .val (.pointer (some (⟨nu1 0, 0, none⟩)))), (4, .val (.bool false)), (5, .val (.int .i64 (↑k : Int))), (6, .val (.int .i64 (-1)))]) (h1 := fun _ => [(nu1 0, .cells #[.int .i64 (↑k : Int), .int .i64 (-1)] 71 (0, 0))]) (p1 := fun _ => []) (W1 := []) (fun _ => by kernel_rfl) (fun _ => trivial) (fun _ => ?_)
    refine JR_end ?_
    refine J_seq ?_
    refine J_reg mixed [.rd 0 [] 0 0, .rd 1 [] 0 0, .rd 2 [.o 0 none] 0 0, .rd 3 [] 0 6, .rd 4 [] 0 0, .rd 5 [] 0 0, .rd 6 [] 0 7, .rd 7 [] 0 0, .rd 8 [] 0 0, .rd 9 [] 0 0, .rd 10 [.o 0 none] 0 0, .rd 11 [] 0 0, .rd 12 [] 0 0, .rd 13 [] 0 0, .rd 14 [] 0 0] [] [4] (E1 := fun _ => [(4, .val (.bool true))]) (h1 := fun _ => [(nu1 0, .cells #[.int .i64 (↑k : Int), .int .i64 (-1)] 71 (0, 0))]) (p1 := fun _ => [((↑k : Int) == (↑k : Int)) = true, ((↑k : Int) == (0 : Int)) = false]) (W1 := []) (by kernel_rfl) (fun _ => by kernel_rfl) (fun _ => ⟨by simp, by simp; omega, trivial⟩) (fun _ => ?_)
    refine J_return [[]] (.bool true) (by kernel_rfl) (fun a w s => ?_)
    exact s.ret (by simp) [] [] rfl rfl
theorem faultedAt {w : World} {S : Nat → Prop} {er : Nat → Addr} {eb : Nat → Array Value × TypeId} {k pb : Nat} {at' : Int} (hC : Rep w S .nilIface (dC er eb)) (hI : Inj er) (h1 : 1 ≤ k) (hk : k ≤ 12) (hp : Rep w S (.pointer (some ⟨pb, 0, none⟩)) (.ptr [.v (.int .i64 at'), .v (.iface 168 (.pointer (some (er k))))])) :
    Calls Tryd.prog 27 #[.iface 106 (.pointer (some ⟨pb, 0, none⟩)), .agg #[.int .i64 k, .int .i64 at']] w fun e w' => Ret [] w S w' e (.bool true) [] [] := by
  refine ep27 (args := [.iface 106 (.pointer (some ⟨pb, 0, none⟩)), .agg #[.int .i64 k, .int .i64 at']]) (G := [(_, dC er eb), (_, .ptr [.v (.int .i64 at'), .v (.iface 168 (.pointer (some (er k))))])]) (by kernel_rfl) (.cons hC (.cons hp (.nil _ _))) ?_
  refine J_seq ?_
  refine J_reg mixed [.wr 0 [] 0, .rd 1 [] 0 0] [] [0, 3, 4] (E1 := fun nu1 => [(0, .val (.iface 106 (.pointer (some (⟨pb, 0, none⟩))))), (3, .val (.pointer (some (⟨nu1 0, 0, none⟩)))), (4, .val (.bool false))]) (h1 := fun nu1 => [(nu1 0, .cells #[.int .i64 (↑k : Int), .int .i64 at'] 71 (0, 0))]) (p1 := fun nu1 => []) (W1 := []) (by kernel_rfl) (fun _ => by kernel_rfl) (fun _ => trivial) (fun nu1 => ?_)
  refine J_seq ?_
  refine JR_begin mixed [(0, true), (1, false), (2, true), (3, true), (4, true), (5, true), (6, true)] [] (by kernel_rfl) (by kernel_rfl) ?_
  refine JR_run (id := 1) (rest := [(1, false), (2, true), (3, true), (4, true), (5, true), (6, true)]) [.rd 0 [] 0 0] [3, 4, 8] (E1 := fun _ => [(3, .val (.pointer (some (⟨nu1 0, 0, none⟩)))), (4, .val (.bool false)), (8, .val (.iface 106 (.pointer (some (⟨pb, 0, none⟩)))))]) (h1 := fun _ => [(nu1 0, .cells #[.int .i64 (↑k : Int), .int .i64 at'] 71 (0, 0))]) (p1 := fun _ => []) (W1 := []) (fun _ => by kernel_rfl) (fun _ => trivial) (fun _ => ?_)
  refine JR_callp [] 37 #[.iface 106 (.pointer (some (⟨pb, 0, none⟩)))] (some 9) (by kernel_rfl) (fun w S hG => ?_)
  refine (codeFault (hG.at 0 rfl) hI h1 hk (hG.at 1 rfl)).mono ?_
  rintro e1 w1 hR
  refine ⟨_, _, _, hR, ?_⟩
  have h0 : ¬ k = 0 := by omega
  try simp only [List.cons_append, List.nil_append, List.append_nil]
  refine JR_run (id := 1) (rest := []) [.rd 2 [] 0 0, .rd 3 [] 0 0, .rd 4 [] 0 0, .rd 5 [] 0 0, .rd 6 [] 0 0] [3, 4, 5, 6] (E1 := fun _ => [(3, .val (.pointer (some (⟨nu1 0, 0, none⟩)))), (4, .val (.bool false)), (5, .val (.int .i64 (↑k : Int))), (6, .val (.int .i64 at'))]) (h1 := fun _ => [(nu1 0, .cells #[.int .i64 (↑k : Int), .int .i64 at'] 71 (0, 0))]) (p1 := fun _ => []) (W1 := []) (fun _ => by kernel_rfl) (fun _ => trivial) (fun _ => ?_)
  refine JR_end ?_
  refine J_seq ?_
  refine J_reg mixed [.rd 0 [] 0 0, .rd 1 [] 0 0, .rd 2 [.o 0 none] 0 0, .rd 3 [] 0 6, .rd 4 [] 0 0, .rd 5 [] 0 0, .rd 6 [] 0 7, .rd 7 [] 0 0, .rd 8 [] 0 0, .rd 9 [] 0 0, .rd 10 [.o 0 none] 0 0, .rd 11 [] 0 6, .rd 12 [] 0 0, .rd 13 [] 0 0, .rd 14 [] 0 0] [] [4] (E1 := fun _ => [(4, .val (.bool true))]) (h1 := fun _ => [(nu1 0, .cells #[.int .i64 (↑k : Int), .int .i64 at'] 71 (0, 0))]) (p1 := fun _ => [((↑k : Int) == (↑k : Int)) = true, ((↑k : Int) == (0 : Int)) = false, (at' == at') = true]) (W1 := []) (by kernel_rfl) (fun _ => by kernel_rfl) (fun _ => ⟨by simp, by simp; omega, by simp, trivial⟩) (fun _ => ?_)
  refine J_return [[]] (.bool true) (by kernel_rfl) (fun a w s => ?_)
  exact s.ret (by simp) [] [] rfl rfl
end Go.Proofs.YtgelnbgjabpdbaaDoor
