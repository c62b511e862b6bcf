/- stream: newWay, NewReceiver, NewSender. -/
import Derived.Test.YtgelnbgjabpdbaaDoorCode
import Derived.Test.YtgelnbgjabpdbaaDoorHearP
namespace Go.Proofs.YtgelnbgjabpdbaaDoor
open Go Go.Sx

def wayErr (fm to sh : Int) : Nat := if fm < 0 ∨ 6 ≤ fm ∨ to < 0 ∨ 6 ≤ to ∨ sh < 0 ∨ 6 ≤ sh then 2 else if fm = to then 3 else 0
theorem newWay {w0 : World} {S : Nat → Prop} {er : Nat → Addr} {fm to sh : Int} (hE : AllG w0 S (globs er)) :
    Calls Tryd.prog 32 #[.int .i64 fm, .int .i64 to, .int .i64 sh] w0 fun e w' =>
      (wayErr fm to sh ≠ 0 ∧ Ret [] w0 S w' e (.tuple #[.agg #[.int .i64 0, .int .i64 0, .int .i64 0], errV 168 er (wayErr fm to sh)]) [] []) ∨
      (wayErr fm to sh = 0 ∧ Ret [] w0 S w' e (.tuple #[.agg #[.int .i64 fm, .int .i64 to, .int .i64 sh], .nilIface]) [] []) := by
  refine ep32 (args := [.int .i64 fm, .int .i64 to, .int .i64 sh]) (G := globs er) (by kernel_rfl) hE ?_
  refine J_glob 1 rfl (fun csg1 tyg1 fzg1 hglob1 => ?_)
  refine J_glob 2 rfl (fun csg2 tyg2 fzg2 hglob2 => ?_)
  refine J_seq ?_
  refine J_reg mixed [.wr 0 [] 0, .rd 1 [] 0 0] [] [0, 1, 2, 6, 7] (E1 := fun nu1 => [(0, .val (.int .i64 fm)), (1, .val (.int .i64 to)), (2, .val (.int .i64 sh)), (6, .val (.pointer (some (⟨nu1 0, 0, none⟩)))), (7, .val (.nilIface))]) (h1 := fun nu1 => [(nu1 0, .cells #[.int .i64 0, .int .i64 0, .int .i64 0] 82 (0, 0))]) (p1 := fun nu1 => []) (W1 := []) (by kernel_rfl) (fun _ => by kernel_rfl) (fun _ => trivial) (fun nu1 => ?_)
  refine J_seq ?_
  refine J_seq ?_
  refine J_reg mixed [.rd 0 [] 0 0, .rd 1 [] 0 0, .rd 2 [] 0 0, .rd 3 [] 2 0, .rd 4 [] 2 0, .rd 5 [] 0 3, .rd 6 [] 0 0, .rd 7 [] 2 0, .rd 8 [] 2 0, .rd 9 [] 0 3, .rd 10 [] 0 0, .rd 11 [] 2 0, .rd 12 [] 2 0, .rd 13 [] 0 3, .rd 14 [] 0 0, .rd 15 [] 2 0, .rd 16 [] 2 0, .rd 17 [] 0 3, .rd 18 [] 0 0, .rd 19 [] 2 0, .rd 20 [] 2 0, .rd 21 [] 0 3] [] [0, 1, 2, 6, 7, 29] (E1 := fun _ => [(0, .val (.int .i64 fm)), (1, .val (.int .i64 to)), (2, .val (.int .i64 sh)), (6, .val (.pointer (some (⟨nu1 0, 0, none⟩)))), (7, .val (.nilIface)), (29, .val (.bool (decide (fm < 0) || decide (fm ≥ 6) || decide (to < 0) || decide (to ≥ 6) || decide (sh < 0) || decide (sh ≥ 6))))]) (h1 := fun _ => [(nu1 0, .cells #[.int .i64 0, .int .i64 0, .int .i64 0] 82 (0, 0))]) (p1 := fun _ => []) (W1 := []) (by kernel_rfl) (fun _ => by kernel_rfl) (fun _ => trivial) (fun _ => ?_)
  refine J_cond (t := decide (fm < 0) || decide (fm ≥ 6) || decide (to < 0) || decide (to ≥ 6) || decide (sh < 0) || decide (sh ≥ 6)) (by kernel_rfl) (by kernel_rfl) (fun hb => ?_) (fun hb => ?_)
  · have e1 : wayErr fm to sh = 2 := by rw [wayErr, if_pos (by simp at hb; omega)]
    refine J_seq ?_
    refine J_reg mixed [.rd 0 [] 0 0, .rd 1 [.r 0 (some (.iface 168 (.pointer (some (er 2)))))] 0 0, .wr 2 [.o 0 none, .o 0 none, .o 0 none] 0, .rd 3 [] 0 0] [(2, [0])] [0, 1, 2, 6, 7] (E1 := fun _ => [(0, .val (.int .i64 fm)), (1, .val (.int .i64 to)), (2, .val (.int .i64 sh)), (6, .val (.pointer (some (⟨nu1 0, 0, none⟩)))), (7, .val (.iface 168 (.pointer (some (er 2)))))]) (h1 := fun _ => [(nu1 0, .cells #[.int .i64 0, .int .i64 0, .int .i64 0] 82 (0, 0))]) (p1 := fun _ => [csg1[(0 : Nat)]? = some (Value.iface (168 : Nat) (Value.pointer (some (er (2 : Nat)))))]) (W1 := []) (by kernel_rfl) (fun _ => by kernel_rfl) (fun _ => ⟨hglob1, trivial⟩) (fun _ => ?_)
    refine J_return [[.o 0 none, .o 0 none, .o 0 none], []] (.tuple #[.agg #[.int .i64 0, .int .i64 0, .int .i64 0], .iface 168 (.pointer (some (er 2)))]) (by kernel_rfl) (fun a w s => ?_)
    refine .inl ⟨by rw [e1]; decide, ?_⟩
    rw [e1]
    exact s.ret (by simp) [] [] rfl rfl
  · have hn : ¬ (fm < 0 ∨ 6 ≤ fm ∨ to < 0 ∨ 6 ≤ to ∨ sh < 0 ∨ 6 ≤ sh) := by simp at hb; omega
    refine J_skip ?_
    refine J_seq ?_
    refine J_seq ?_
    refine J_reg mixed [.rd 0 [] 0 0, .rd 1 [] 0 0, .rd 2 [] 0 0] [] [0, 1, 2, 6, 7, 34] (E1 := fun _ => [(0, .val (.int .i64 fm)), (1, .val (.int .i64 to)), (2, .val (.int .i64 sh)), (6, .val (.pointer (some (⟨nu1 0, 0, none⟩)))), (7, .val (.nilIface)), (34, .val (.bool (fm == to)))]) (h1 := fun _ => [(nu1 0, .cells #[.int .i64 0, .int .i64 0, .int .i64 0] 82 (0, 0))]) (p1 := fun _ => []) (W1 := []) (by kernel_rfl) (fun _ => by kernel_rfl) (fun _ => trivial) (fun _ => ?_)
    refine J_cond (t := fm == to) (by kernel_rfl) (by kernel_rfl) (fun hs => ?_) (fun hs => ?_)
    · have e1 : wayErr fm to sh = 3 := by rw [wayErr, if_neg hn, if_pos (by simpa using hs)]
      refine J_seq ?_
      refine J_reg mixed [.rd 0 [] 0 0, .rd 1 [.r 1 (some (.iface 168 (.pointer (some (er 3)))))] 0 0, .wr 2 [.o 0 none, .o 0 none, .o 0 none] 0, .rd 3 [] 0 0] [(2, [0])] [0, 1, 2, 6, 7] (E1 := fun _ => [(0, .val (.int .i64 fm)), (1, .val (.int .i64 to)), (2, .val (.int .i64 sh)), (6, .val (.pointer (some (⟨nu1 0, 0, none⟩)))), (7, .val (.iface 168 (.pointer (some (er 3)))))]) (h1 := fun _ => [(nu1 0, .cells #[.int .i64 0, .int .i64 0, .int .i64 0] 82 (0, 0))]) (p1 := fun _ => [csg2[(0 : Nat)]? = some (Value.iface (168 : Nat) (Value.pointer (some (er (3 : Nat)))))]) (W1 := []) (by kernel_rfl) (fun _ => by kernel_rfl) (fun _ => ⟨hglob2, trivial⟩) (fun _ => ?_)
      refine J_return [[.o 0 none, .o 0 none, .o 0 none], []] (.tuple #[.agg #[.int .i64 0, .int .i64 0, .int .i64 0], .iface 168 (.pointer (some (er 3)))]) (by kernel_rfl) (fun a w s => ?_)
      refine .inl ⟨by rw [e1]; decide, ?_⟩
      rw [e1]
      exact s.ret (by simp) [] [] rfl rfl
    · have e1 : wayErr fm to sh = 0 := by rw [wayErr, if_neg hn, if_neg (by simpa using hs)]
      refine J_skip ?_
      refine J_seq ?_
      refine J_reg mixed [.rd 0 [] 0 0, .rd 1 [] 0 0, .rd 2 [] 0 0, .rd 3 [] 0 0, .wr 4 [.o 0 none, .o 0 none, .o 0 none] 0, .rd 5 [] 0 0] [(4, [0])] [6, 7] (E1 := fun _ => [(6, .val (.pointer (some (⟨nu1 0, 0, none⟩)))), (7, .val (.nilIface))]) (h1 := fun _ => [(nu1 0, .cells #[.int .i64 fm, .int .i64 to, .int .i64 sh] 82 (0, 0))]) (p1 := fun _ => []) (W1 := []) (by kernel_rfl) (fun _ => by kernel_rfl) (fun _ => trivial) (fun _ => ?_)
      refine J_return [[.o 0 none, .o 0 none, .o 0 none], []] (.tuple #[.agg #[.int .i64 fm, .int .i64 to, .int .i64 sh], .nilIface]) (by kernel_rfl) (fun a w s => ?_)
      exact .inr ⟨e1, s.ret (by simp) [] [] rfl rfl⟩
theorem newReceiver {w0 : World} {S : Nat → Prop} {er : Nat → Addr} {fm to sh : Int} (hE : AllG w0 S (globs er)) (h0 : wayErr fm to sh = 0) :
    Calls Tryd.prog 9 #[.int .i64 fm, .int .i64 to, .int .i64 sh] w0 fun e w' => ∃ b mb,
      Ret [] w0 S w' e (.tuple #[.pointer (some ⟨b, 0, none⟩), .nilIface]) [cObj b (.cells #[.int .i64 fm, .int .i64 to, .int .i64 sh, .int .i64 0, .int .i64 0, .map (some mb)] 89 (0, 0)), cMap mb (.int .i64) (KL [])] [] := by
  refine ep9 (args := [.int .i64 fm, .int .i64 to, .int .i64 sh]) (G := globs er) (by kernel_rfl) hE ?_
  refine J_seq ?_
  refine J_reg mixed [.rd 0 [] 0 0, .rd 1 [] 0 0] [] [0, 1, 2, 6, 7] (E1 := fun _ => [(0, .val (.int .i64 fm)), (1, .val (.int .i64 to)), (2, .val (.int .i64 sh)), (6, .val (.pointer none)), (7, .val (.nilIface))]) (h1 := fun _ => []) (p1 := fun _ => []) (W1 := []) (by kernel_rfl) (fun _ => by kernel_rfl) (fun _ => trivial) (fun _ => ?_)
  refine J_seq ?_
  refine JR_begin mixed [(0, true), (1, true), (2, true), (3, false), (4, true), (5, true), (6, true), (7, false), (8, false), (9, true)] [] (by kernel_rfl) (by kernel_rfl) ?_
  refine JR_run (id := 1) (rest := [(3, false), (4, true), (5, true), (6, true), (7, false), (8, false), (9, true)]) [.rd 0 [] 0 0, .rd 1 [] 0 0, .rd 2 [] 0 0] [6, 7, 11, 12, 13] (E1 := fun _ => [(6, .val (.pointer none)), (7, .val (.nilIface)), (11, .val (.int .i64 fm)), (12, .val (.int .i64 to)), (13, .val (.int .i64 sh))]) (h1 := fun _ => []) (p1 := fun _ => []) (W1 := []) (fun _ => by kernel_rfl) (fun _ => trivial) (fun _ => ?_)
  refine JR_callp [] 32 #[.int .i64 fm, .int .i64 to, .int .i64 sh] (some 14) (by kernel_rfl) (fun w S hG => ?_)
  refine (newWay (hG.pick [0, 1, 2] rfl)).mono ?_
  rintro e1 w1 (⟨h1, hR⟩ | ⟨h1, hR⟩)
  · exact absurd h0 h1
  refine ⟨_, _, _, hR, ?_⟩
  try simp only [List.cons_append, List.nil_append, List.append_nil]
  refine JR_run (id := 1) (rest := []) [.rd 4 [] 0 0, .rd 5 [] 0 0, .rd 6 [] 0 0, .wr 7 [] 0, .wr 8 [.o 0 none, .o 0 none, .o 0 none] 0, .rd 9 [] 0 0] [6, 7, 8, 9] (E1 := fun nu1 => [(6, .val (.pointer none)), (7, .val (.nilIface)), (8, .val (.pointer (some (⟨nu1 0, 0, none⟩)))), (9, .val (.nilIface))]) (h1 := fun nu1 => [(nu1 0, .cells #[.int .i64 fm, .int .i64 to, .int .i64 sh] 82 (0, 0))]) (p1 := fun nu1 => []) (W1 := []) (fun _ => by kernel_rfl) (fun _ => trivial) (fun nu1 => ?_)
  refine JR_end ?_
  refine J_seq ?_
  refine J_seq ?_
  refine J_reg mixed [.rd 0 [] 0 0, .rd 1 [] 0 0] [] [6, 7, 8, 9, 18] (E1 := fun _ => [(6, .val (.pointer none)), (7, .val (.nilIface)), (8, .val (.pointer (some (⟨nu1 0, 0, none⟩)))), (9, .val (.nilIface)), (18, .val (.bool false))]) (h1 := fun _ => [(nu1 0, .cells #[.int .i64 fm, .int .i64 to, .int .i64 sh] 82 (0, 0))]) (p1 := fun _ => []) (W1 := []) (by kernel_rfl) (fun _ => by kernel_rfl) (fun _ => trivial) (fun _ => ?_)
  refine J_cond_f (by kernel_rfl) (by kernel_rfl) ?_
  refine J_skip ?_
  refine J_seq ?_
  refine J_reg mixed [.rd 0 [.o 0 none, .o 0 none, .o 0 none] 0 0, .wr 1 [] 0, .rd 2 [] 0 0, .wr 3 [] 0, .rd 4 [] 0 0, .rd 5 [] 0 0] [] [6, 7] (E1 := fun nu2 => [(6, .val (.pointer (some (⟨nu2 1, 0, none⟩)))), (7, .val (.nilIface))]) (h1 := fun nu2 => [(nu1 0, .cells #[.int .i64 fm, .int .i64 to, .int .i64 sh] 82 (0, 0)), (nu2 0, Obj.map #[] 0), (nu2 1, .cells #[.int .i64 fm, .int .i64 to, .int .i64 sh, .int .i64 0, .int .i64 0, .map (some (nu2 0))] 89 (0, 0))]) (p1 := fun nu2 => []) (W1 := []) (by kernel_rfl) (fun _ => by kernel_rfl) (fun _ => trivial) (fun nu2 => ?_)
  refine J_return [[], []] (.tuple #[.pointer (some (⟨nu2 1, 0, none⟩)), .nilIface]) (by kernel_rfl) (fun a w s => ?_)
  have s1 := ((s.hide 2 rfl).hide 1 rfl).stp (stp_conv 1 rfl (map0_eqv _ _ (.int .i64)))
  rw [KL_nil]
  exact ⟨_, _, s1.ret (by simp) [0, 1] [] rfl rfl⟩
end Go.Proofs.YtgelnbgjabpdbaaDoor
