/- StreamSends, walked. -/
import Derived.Test.YtgelnbgjabpdbaaDoorSSendA
import Derived.Test.YtgelnbgjabpdbaaDoorFaulted
import Derived.Test.YtgelnbgjabpdbaaDoorSent
import Derived.Test.YtgelnbgjabpdbaaDoorMsgs
import Derived.Test.YtgelnbgjabpdbaaDoorBacks
namespace Go.Proofs.YtgelnbgjabpdbaaDoor
open Go Go.Sx

theorem ackL_len (q seq : Int) (L : List MsgT) : (ackL q seq L).length ≤ L.length := by
  unfold ackL keepL
  split
  · exact List.length_filter_le _ _
  · exact Nat.le_refl _
theorem ackL_sub {q seq : Int} {L : List MsgT} {y : MsgT} (h : y ∈ ackL q seq L) : y ∈ L := by
  unfold ackL keepL at h
  split at h
  · exact (List.mem_filter.1 h).1
  · exact h
theorem fit_ofC {m : MsgT} (h : heavyC m.c = 0) : Fit m := by
  unfold heavyC at h
  split at h
  · cases h
  · split at h
    · cases h
    · rename_i h1 h2
      refine ⟨by omega, by omega, fun o ho => ?_⟩
      have h3 : heavyOp o = false := by
        cases h4 : heavyOp o with
        | false => rfl
        | true => exact absurd (List.any_eq_true.2 ⟨o, ho, h4⟩) h2
      simp [heavyOp] at h3
      omega
structure SS where
  i : Int
  q : Int
  t : Int
  L : List MsgT
  a : Option Addr
  k : Nat
  c : Nat
  a2 : Option Addr
  k2 : Nat
  c2 : Nat
set_option maxHeartbeats 4000000 in
theorem streamSends {w : World} {S : Nat → Prop} {er : Nat → Addr} {eb : Nat → Array Value × TypeId} {a : Option Addr} {n c : Nat} {fm to sh : Int} {l : List ActT} (hC : Rep w S .nilIface (dC er eb)) (hI : Inj er) (ha : Rep w S (.slice a n c) (.sl 5 (l.map eAct))) :
    Calls Tryd.prog 6 #[.int .i64 fm, .int .i64 to, .int .i64 sh, .slice a n c] w fun e w' => Ret [] w S w' e (.bool true) [] [] := by
  have e1 := ha.slen
  rw [List.length_map] at e1
  subst e1
  refine ep6 (args := [.int .i64 fm, .int .i64 to, .int .i64 sh, .slice a l.length c]) (S := S) (G := [(_, dC er eb), (_, .sl 5 (l.map eAct))]) (by kernel_rfl) (.cons hC (.cons ha (.nil _ _))) ?_
  refine J_seq ?_
  refine J_reg mixed [.rd 0 [] 0 0] [] [0, 1, 2, 3, 8] (E1 := fun _ => [(0, .val (.int .i64 fm)), (1, .val (.int .i64 to)), (2, .val (.int .i64 sh)), (3, .val (.slice a l.length c)), (8, .val (.bool false))]) (h1 := fun _ => []) (p1 := fun _ => []) (W1 := []) (by kernel_rfl) (fun _ => by kernel_rfl) (fun _ => trivial) (fun _ => ?_)
  refine J_seq ?_
  refine JR_begin mixed [(0, false), (1, true)] [] (by kernel_rfl) (by kernel_rfl) ?_
  refine JR_callp [] 7 #[] (some 26) (by kernel_rfl) (fun w S hG => ?_)
  refine (sent (hG.at 0 rfl)).mono ?_
  rintro e1 w1 hR
  refine ⟨_, _, _, hR, ?_⟩
  try simp only [List.cons_append, List.nil_append, List.append_nil]
  refine JR_run (id := 1) (rest := []) [.rd 1 [] 0 0] [0, 1, 2, 3, 8, 9] (E1 := fun _ => [(0, .val (.int .i64 fm)), (1, .val (.int .i64 to)), (2, .val (.int .i64 sh)), (3, .val (.slice a l.length c)), (8, .val (.bool false)), (9, .val (.bool true))]) (h1 := fun _ => []) (p1 := fun _ => []) (W1 := []) (fun _ => by kernel_rfl) (fun _ => trivial) (fun _ => ?_)
  refine JR_end ?_
  refine J_seq ?_
  refine J_seq ?_
  refine J_reg mixed [.rd 0 [] 0 0, .rd 1 [] 0 0, .rd 2 [] 0 0, .rd 3 [] 0 0, .rd 4 [] 0 0, .rd 5 [] 0 0, .rd 6 [] 0 0] [] [0, 1, 2, 3, 8, 9, 33] (E1 := fun _ => [(0, .val (.int .i64 fm)), (1, .val (.int .i64 to)), (2, .val (.int .i64 sh)), (3, .val (.slice a l.length c)), (8, .val (.bool false)), (9, .val (.bool true)), (33, .val (.bool (decide ((↑l.length : Int) > 40))))]) (h1 := fun _ => []) (p1 := fun _ => []) (W1 := []) (by kernel_rfl) (fun _ => by kernel_rfl) (fun _ => trivial) (fun _ => ?_)
  refine J_cond (t := decide ((↑l.length : Int) > 40)) (by kernel_rfl) (by kernel_rfl) (fun hlen => ?_) (fun hlen => ?_)
  · refine J_seq ?_
    refine J_reg mixed [.rd 0 [] 0 0, .rd 1 [] 0 0] [] [0, 1, 2, 3, 8] (E1 := fun _ => [(0, .val (.int .i64 fm)), (1, .val (.int .i64 to)), (2, .val (.int .i64 sh)), (3, .val (.slice a l.length c)), (8, .val (.bool true))]) (h1 := fun _ => []) (p1 := fun _ => []) (W1 := []) (by kernel_rfl) (fun _ => by kernel_rfl) (fun _ => trivial) (fun _ => ?_)
    refine J_return [[]] (.bool true) (by kernel_rfl) (fun a w s => ?_)
    exact s.ret (by simp) [] [] rfl rfl
  have hl40 : l.length ≤ 40 := by simp at hlen; omega
  by_cases hw : wayErr fm to sh = 0
  · refine J_skip ?_
    refine J_seq ?_
    refine JR_begin mixed [(0, true), (1, true), (2, true), (3, false), (4, true), (5, true), (6, true), (7, true), (8, true)] [] (by kernel_rfl) (by kernel_rfl) ?_
    refine JR_run (id := 4) (rest := [(3, false), (4, true), (5, true), (6, true), (7, true), (8, true)]) [.rd 0 [] 0 0, .rd 1 [] 0 0, .rd 2 [] 0 0] [0, 1, 2, 3, 8, 36, 37, 38] (E1 := fun _ => [(0, .val (.int .i64 fm)), (1, .val (.int .i64 to)), (2, .val (.int .i64 sh)), (3, .val (.slice a l.length c)), (8, .val (.bool false)), (36, .val (.int .i64 fm)), (37, .val (.int .i64 to)), (38, .val (.int .i64 sh))]) (h1 := fun _ => []) (p1 := fun _ => []) (W1 := []) (fun _ => by kernel_rfl) (fun _ => trivial) (fun _ => ?_)
    refine JR_callp [] 8 #[.int .i64 fm, .int .i64 to, .int .i64 sh] (some 39) (by kernel_rfl) (fun w S hG => ?_)
    refine (newSender (globs_of (hG.at 0 rfl)) hw).mono ?_
    rintro e1 w1 ⟨b, hR⟩
    refine ⟨_, _, _, hR, ?_⟩
    try simp only [List.cons_append, List.nil_append, List.append_nil]
    refine JR_run (id := 4) (rest := []) [.rd 4 [] 0 0, .rd 5 [] 0 0, .rd 6 [] 0 0, .rd 7 [] 0 0, .rd 8 [] 0 0] [0, 1, 2, 3, 8, 10, 11] (E1 := fun _ => [(0, .val (.int .i64 fm)), (1, .val (.int .i64 to)), (2, .val (.int .i64 sh)), (3, .val (.slice a l.length c)), (8, .val (.bool false)), (10, .val (.pointer (some (⟨b, 0, none⟩)))), (11, .val (.nilIface))]) (h1 := fun _ => []) (p1 := fun _ => []) (W1 := []) (fun _ => by kernel_rfl) (fun _ => trivial) (fun _ => ?_)
    refine JR_end ?_
    refine J_seq ?_
    refine JR_begin mixed [(0, true), (1, true), (2, true), (3, false), (4, true), (5, true), (6, true), (7, true), (8, true)] [] (by kernel_rfl) (by kernel_rfl) ?_
    refine JR_run (id := 5) (rest := [(3, false), (4, true), (5, true), (6, true), (7, true), (8, true)]) [.rd 0 [] 0 0, .rd 1 [] 0 0, .rd 2 [] 0 0] [0, 1, 2, 3, 8, 10, 11, 43, 44, 45] (E1 := fun _ => [(0, .val (.int .i64 fm)), (1, .val (.int .i64 to)), (2, .val (.int .i64 sh)), (3, .val (.slice a l.length c)), (8, .val (.bool false)), (10, .val (.pointer (some (⟨b, 0, none⟩)))), (11, .val (.nilIface)), (43, .val (.int .i64 fm)), (44, .val (.int .i64 to)), (45, .val (.int .i64 sh))]) (h1 := fun _ => []) (p1 := fun _ => []) (W1 := []) (fun _ => by kernel_rfl) (fun _ => trivial) (fun _ => ?_)
    refine JR_callp [] 9 #[.int .i64 fm, .int .i64 to, .int .i64 sh] (some 46) (by kernel_rfl) (fun w S hG => ?_)
    refine (newReceiver (globs_of (hG.at 0 rfl)) hw).mono ?_
    rintro e1 w1 ⟨rb, rmb, hR⟩
    refine ⟨_, _, _, hR, ?_⟩
    try simp only [List.cons_append, List.nil_append, List.append_nil]
    refine JR_run (id := 5) (rest := []) [.rd 4 [] 0 0, .rd 5 [] 0 0, .rd 6 [] 0 0, .rd 7 [] 0 0, .rd 8 [] 0 0] [0, 1, 2, 3, 8, 10, 11, 12, 13] (E1 := fun _ => [(0, .val (.int .i64 fm)), (1, .val (.int .i64 to)), (2, .val (.int .i64 sh)), (3, .val (.slice a l.length c)), (8, .val (.bool false)), (10, .val (.pointer (some (⟨b, 0, none⟩)))), (11, .val (.nilIface)), (12, .val (.pointer (some (⟨rb, 0, none⟩)))), (13, .val (.nilIface))]) (h1 := fun _ => []) (p1 := fun _ => []) (W1 := []) (fun _ => by kernel_rfl) (fun _ => trivial) (fun _ => ?_)
    refine JR_end ?_
    refine J_seq ?_
    refine JR_begin mixed [(0, true), (1, true), (2, true), (3, false), (4, true)] [] (by kernel_rfl) (by kernel_rfl) ?_
    refine JR_run (id := 6) (rest := [(3, false), (4, true)]) [.rd 0 [] 0 0, .rd 1 [] 0 0, .rd 2 [] 0 0] [0, 1, 2, 3, 8, 10, 11, 12, 13, 49, 50, 51] (E1 := fun _ => [(0, .val (.int .i64 fm)), (1, .val (.int .i64 to)), (2, .val (.int .i64 sh)), (3, .val (.slice a l.length c)), (8, .val (.bool false)), (10, .val (.pointer (some (⟨b, 0, none⟩)))), (11, .val (.nilIface)), (12, .val (.pointer (some (⟨rb, 0, none⟩)))), (13, .val (.nilIface)), (49, .val (.int .i64 fm)), (50, .val (.int .i64 to)), (51, .val (.int .i64 sh))]) (h1 := fun _ => []) (p1 := fun _ => []) (W1 := []) (fun _ => by kernel_rfl) (fun _ => trivial) (fun _ => ?_)
    refine JR_callp [] 16 #[.int .i64 fm, .int .i64 to, .int .i64 sh] (some 52) (by kernel_rfl) (fun w S hG => ?_)
    refine (wayError (w0 := w) (S := S)).mono ?_
    rintro e1 w1 hR
    rw [hw] at hR
    refine ⟨_, _, _, hR, ?_⟩
    try simp only [List.cons_append, List.nil_append, List.append_nil]
    refine JR_run (id := 6) (rest := []) [.rd 4 [] 0 0] [0, 1, 2, 3, 8, 10, 11, 12, 13, 14] (E1 := fun _ => [(0, .val (.int .i64 fm)), (1, .val (.int .i64 to)), (2, .val (.int .i64 sh)), (3, .val (.slice a l.length c)), (8, .val (.bool false)), (10, .val (.pointer (some (⟨b, 0, none⟩)))), (11, .val (.nilIface)), (12, .val (.pointer (some (⟨rb, 0, none⟩)))), (13, .val (.nilIface)), (14, .val (.int .i64 0))]) (h1 := fun _ => []) (p1 := fun _ => []) (W1 := []) (fun _ => by kernel_rfl) (fun _ => trivial) (fun _ => ?_)
    refine JR_end ?_
    refine J_seq ?_
    refine J_seq ?_
    refine J_reg mixed [.rd 0 [] 0 0, .rd 1 [] 0 0] [] [0, 1, 2, 3, 8, 10, 11, 12, 13, 14, 54] (E1 := fun _ => [(0, .val (.int .i64 fm)), (1, .val (.int .i64 to)), (2, .val (.int .i64 sh)), (3, .val (.slice a l.length c)), (8, .val (.bool false)), (10, .val (.pointer (some (⟨b, 0, none⟩)))), (11, .val (.nilIface)), (12, .val (.pointer (some (⟨rb, 0, none⟩)))), (13, .val (.nilIface)), (14, .val (.int .i64 0)), (54, .val (.bool false))]) (h1 := fun _ => []) (p1 := fun _ => []) (W1 := []) (by kernel_rfl) (fun _ => by kernel_rfl) (fun _ => trivial) (fun _ => ?_)
    refine J_cond_f (by kernel_rfl) (by kernel_rfl) ?_
    refine J_skip ?_
    refine J_seq ?_
    refine J_seq ?_
    refine J_reg mixed [.rd 0 [] 0 0, .rd 1 [] 0 0, .rd 2 [] 0 0, .rd 3 [] 0 0, .rd 4 [] 0 0, .rd 5 [] 0 0, .rd 6 [] 0 0, .rd 7 [] 0 0, .rd 8 [] 0 0, .rd 9 [] 0 0, .rd 10 [] 0 0, .rd 11 [] 0 0, .rd 12 [] 0 0, .rd 13 [] 0 0] [] [0, 1, 2, 3, 8, 10, 84] (E1 := fun _ => [(0, .val (.int .i64 fm)), (1, .val (.int .i64 to)), (2, .val (.int .i64 sh)), (3, .val (.slice a l.length c)), (8, .val (.bool false)), (10, .val (.pointer (some (⟨b, 0, none⟩)))), (84, .val (.bool false))]) (h1 := fun _ => []) (p1 := fun _ => []) (W1 := []) (by kernel_rfl) (fun _ => by kernel_rfl) (fun _ => trivial) (fun _ => ?_)
    refine J_cond_f (by kernel_rfl) (by kernel_rfl) ?_
    refine J_skip ?_
    refine J_seq ?_
    refine J_reg mixed [.rd 0 [] 0 0, .rd 1 [] 0 0, .rd 2 [] 0 0, .rd 3 [] 0 0, .wr 4 [] 0, .rd 5 [] 0 0] [] [3, 8, 10, 15] (E1 := fun nu1 => [(3, .val (.slice a l.length c)), (8, .val (.bool false)), (10, .val (.pointer (some (⟨b, 0, none⟩)))), (15, .val (.pointer (some (⟨nu1 0, 0, none⟩))))]) (h1 := fun nu1 => [(nu1 0, .cells #[.int .i64 fm, .int .i64 to, .int .i64 sh, .int .i64 0, .int .i64 0, .slice none 0 0] 64 (0, 0))]) (p1 := fun nu1 => []) (W1 := []) (by kernel_rfl) (fun _ => by kernel_rfl) (fun _ => trivial) (fun nu1 => ?_)
    refine J_seq ?_
    refine J_seq ?_
    refine J_reg mixed [.rd 0 [] 0 0] [] [3, 8, 10, 15, 16] (E1 := fun _ => [(3, .val (.slice a l.length c)), (8, .val (.bool false)), (10, .val (.pointer (some (⟨b, 0, none⟩)))), (15, .val (.pointer (some (⟨nu1 0, 0, none⟩)))), (16, .val (.int .i64 0))]) (h1 := fun _ => [(nu1 0, .cells #[.int .i64 fm, .int .i64 to, .int .i64 sh, .int .i64 0, .int .i64 0, .slice none 0 0] 64 (0, 0))]) (p1 := fun _ => []) (W1 := []) (by kernel_rfl) (fun _ => by kernel_rfl) (fun _ => trivial) (fun _ => ?_)
    refine J_block ?_
    refine J_stp (stp_accm eMsg 37 9) ?_
    refine J_stp (stp_accm eMsg 55 9) ?_
    refine J_hide 0 rfl ?_
    refine J_cut [3, 8, 10, 15, 16] [] [0, 3, 5, 4] [0, 1] rfl rfl rfl rfl ?_
    refine J_norm (C' := [cObj b (.cells #[.int .i64 fm, .int .i64 to, .int .i64 sh, .int .i64 0, .int .i64 0, .slice none 0 0] 86 (0, 0)), cAcc (.slice none 0 0) 37 9 (List.map eMsg []), cObj (nu1 0) (.cells #[.int .i64 fm, .int .i64 to, .int .i64 sh, .int .i64 0, .int .i64 0, .slice none 0 0] 64 (0, 0)), cAcc (.slice none 0 0) 55 9 (List.map eMsg [])]) (G' := [(.nilIface, (dC er eb)), (.slice a l.length c, (D.sl 5 (List.map eAct l)))]) (by kernel_rfl) (by kernel_rfl) ?_
    refine J_loopx (fun x : SS => [(3, .val (.slice a l.length c)), (8, .val (.bool false)), (10, .val (.pointer (some (⟨b, 0, none⟩)))), (15, .val (.pointer (some (⟨nu1 0, 0, none⟩)))), (16, .val (.int .i64 x.i))]) (fun x : SS => []) (fun x : SS => [cObj b (sCells fm to sh x.q x.t (.slice x.a x.k x.c)), cAcc (.slice x.a x.k x.c) 37 9 (x.L.map eMsg), cObj (nu1 0) (rsCells fm to sh x.q x.t (.slice x.a2 x.k2 x.c2)), cAcc (.slice x.a2 x.k2 x.c2) 55 9 (x.L.map eMsg)]) (fun x : SS => [(.nilIface, (dC er eb)), (.slice a l.length c, (D.sl 5 (List.map eAct l)))]) (fun x : SS => (l.length - x.i).toNat) (fun x : SS => (0 ≤ x.i ∧ x.i ≤ l.length ∧ 0 ≤ x.q ∧ x.q ≤ x.i ∧ x.L.length ≤ x.i ∧ ∀ y ∈ x.L, Fit y)) ⟨0, 0, 0, [], none, 0, 0, none, 0, 0⟩ [3, 8, 10, 15, 16] [] [0, 1, 2, 3] [0, 1] ?_ (by kernel_rfl) rfl rfl rfl ?_
    · exact ⟨by simp, by simp, by simp, by simp, by simp, by simp⟩
    rintro ⟨i, q, t, L, a5, k5, c5, a6, k6, c6⟩ ⟨hi0, hi, hq0, hq, hL, hfit⟩
    dsimp only at hi0 hi hq0 hq hL hfit ⊢
    refine J_seq ?_
    refine J_seq ?_
    refine J_reg mixed [.rd 0 [] 0 0, .rd 1 [] 0 0, .rd 2 [] 0 0, .rd 3 [] 0 0] [] [3, 8, 10, 15, 16, 93] (E1 := fun _ => [(3, .val (.slice a l.length c)), (8, .val (.bool false)), (10, .val (.pointer (some (⟨b, 0, none⟩)))), (15, .val (.pointer (some (⟨nu1 0, 0, none⟩)))), (16, .val (.int .i64 i)), (93, .val (.bool (decide (i < (↑l.length : Int)))))]) (h1 := fun _ => []) (p1 := fun _ => []) (W1 := []) (by kernel_rfl) (fun _ => by kernel_rfl) (fun _ => trivial) (fun _ => ?_)
    refine J_cond (t := decide (i < (↑l.length : Int))) (by kernel_rfl) (by kernel_rfl) (fun hlt => ?_) (fun hlt => ?_)
    · have hlt2 : i < l.length := by simpa using hlt
      obtain ⟨x, hx⟩ : ∃ x, l[i.toNat]? = some x := ⟨_, List.getElem?_eq_getElem (by omega)⟩
      refine J_read2 1 rfl i.toNat (map_at hx) (by kernel_rfl) (fun b1 off1 cs1 ty1 fz1 a1_0 c1_0 a1_1 c1_1 ha1 hrd1 => ?_)
      cases ha1
      have hrd1_0 := rd0 (hrd1 0 _ rfl)
      have hrd1_1 := hrd1 1 _ rfl
      have hrd1_2 := hrd1 2 _ rfl
      have hrd1_3 := hrd1 3 _ rfl
      have hrd1_4 := hrd1 4 _ rfl
      try simp only [List.cons_append, List.nil_append, List.append_nil]
      refine J_skip ?_
      refine J_seq ?_
      refine J_block ?_
      refine J_seq ?_
      refine J_reg mixed [.rd 0 [] 0 0, .rd 1 [] 0 0, .rd 2 [] 0 2, .rd 3 [.r 0 (some (.string x.kind)), .r 0 (some (.slice (a1_0, c1_0).fst ((List.map eI x.c.when).length) c1_0)), .r 0 (some (.int .i64 x.c.place)), .r 0 (some (.slice (a1_1, c1_1).fst ((List.map eOp x.c.ops).length) c1_1)), .r 0 (some (.int .i64 x.n))] 0 0, .wr 4 [] 0, .wr 5 [.o 0 none, .o 0 none, .o 0 none, .o 0 none, .o 0 none] 0] [(5, [])] [3, 8, 10, 15, 16, 17] (E1 := fun nu2 => [(3, .val (.slice (some (⟨b1, off1, none⟩)) l.length c)), (8, .val (.bool false)), (10, .val (.pointer (some (⟨b, 0, none⟩)))), (15, .val (.pointer (some (⟨nu1 0, 0, none⟩)))), (16, .val (.int .i64 i)), (17, .val (.pointer (some (⟨nu2 0, 0, none⟩))))]) (h1 := fun nu2 => [(nu2 0, .cells #[.string x.kind, .slice (a1_0, c1_0).fst ((List.map eI x.c.when).length) c1_0, .int .i64 x.c.place, .slice (a1_1, c1_1).fst ((List.map eOp x.c.ops).length) c1_1, .int .i64 x.n] 66 (0, 0))]) (p1 := fun nu2 => [(0 : Int) ≤ i, i < (↑l.length : Int), cs1[off1 + i.toNat * (5 : Nat)]? = some (Value.string x.kind), cs1[off1 + i.toNat * (5 : Nat) + (1 : Nat)]? = some (Value.slice (a1_0, c1_0).fst (List.map eI x.c.when).length (a1_0, c1_0).snd), cs1[off1 + i.toNat * (5 : Nat) + (2 : Nat)]? = some (Value.int IntKind.i64 x.c.place), cs1[off1 + i.toNat * (5 : Nat) + (3 : Nat)]? = some (Value.slice (a1_1, c1_1).fst (List.map eOp x.c.ops).length (a1_1, c1_1).snd), cs1[off1 + i.toNat * (5 : Nat) + (4 : Nat)]? = some (Value.int IntKind.i64 x.n)]) (W1 := []) (by kernel_rfl) (fun _ => by kernel_rfl) (fun _ => ⟨hi0, hlt2, hrd1_0, hrd1_1, hrd1_2, hrd1_3, hrd1_4, trivial⟩) (fun nu2 => ?_)
      refine J_seq ?_
      refine J_seq ?_
      refine JR_begin mixed [(0, true), (1, true), (2, false), (3, true)] [] (by kernel_rfl) (by kernel_rfl) ?_
      refine JR_run (id := 16) (rest := [(2, false), (3, true)]) [.rd 0 [] 0 0, .rd 1 [.o 0 none, .o 0 none, .o 0 none] 0 0] [3, 8, 10, 15, 16, 17, 101] (E1 := fun _ => [(3, .val (.slice (some (⟨b1, off1, none⟩)) l.length c)), (8, .val (.bool false)), (10, .val (.pointer (some (⟨b, 0, none⟩)))), (15, .val (.pointer (some (⟨nu1 0, 0, none⟩)))), (16, .val (.int .i64 i)), (17, .val (.pointer (some (⟨nu2 0, 0, none⟩)))), (101, .val (.agg #[.slice (a1_0, c1_0).fst ((List.map eI x.c.when).length) c1_0, .int .i64 x.c.place, .slice (a1_1, c1_1).fst ((List.map eOp x.c.ops).length) c1_1]))]) (h1 := fun _ => [(nu2 0, .cells #[.string x.kind, .slice (a1_0, c1_0).fst ((List.map eI x.c.when).length) c1_0, .int .i64 x.c.place, .slice (a1_1, c1_1).fst ((List.map eOp x.c.ops).length) c1_1, .int .i64 x.n] 66 (0, 0))]) (p1 := fun _ => []) (W1 := []) (fun _ => by kernel_rfl) (fun _ => trivial) (fun _ => ?_)
      refine JR_callp [] 23 #[.agg #[.slice (a1_0, c1_0).fst ((List.map eI x.c.when).length) c1_0, .int .i64 x.c.place, .slice (a1_1, c1_1).fst ((List.map eOp x.c.ops).length) c1_1]] (some 102) (by kernel_rfl) (fun w S hG => ?_)
      refine (heavyCommit (c := x.c) (hG.at 2 rfl) (hG.at 3 rfl)).mono ?_
      rintro e1 w1 hR
      refine ⟨_, _, _, hR, ?_⟩
      try simp only [List.cons_append, List.nil_append, List.append_nil]
      refine JR_run (id := 16) (rest := []) [.rd 3 [] 0 0] [3, 8, 10, 15, 16, 17, 103] (E1 := fun _ => [(3, .val (.slice (some (⟨b1, off1, none⟩)) l.length c)), (8, .val (.bool false)), (10, .val (.pointer (some (⟨b, 0, none⟩)))), (15, .val (.pointer (some (⟨nu1 0, 0, none⟩)))), (16, .val (.int .i64 i)), (17, .val (.pointer (some (⟨nu2 0, 0, none⟩)))), (103, .val (.bool (decide (heavyC x.c > 0))))]) (h1 := fun _ => [(nu2 0, .cells #[.string x.kind, .slice a1_0 ((List.map eI x.c.when).length) c1_0, .int .i64 x.c.place, .slice a1_1 ((List.map eOp x.c.ops).length) c1_1, .int .i64 x.n] 66 (0, 0))]) (p1 := fun _ => []) (W1 := []) (fun _ => by kernel_rfl) (fun _ => trivial) (fun _ => ?_)
      refine JR_end ?_
      refine J_cond (t := decide (heavyC x.c > 0)) (by kernel_rfl) (by kernel_rfl) (fun hhv => ?_) (fun hhv => ?_)
      · refine J_seq ?_
        refine J_reg mixed [.rd 0 [] 0 0] [] [3, 8, 10, 15, 16, 17] (E1 := fun _ => [(3, .val (.slice (some (⟨b1, off1, none⟩)) l.length c)), (8, .val (.bool true)), (10, .val (.pointer (some (⟨b, 0, none⟩)))), (15, .val (.pointer (some (⟨nu1 0, 0, none⟩)))), (16, .val (.int .i64 i)), (17, .val (.pointer (some (⟨nu2 0, 0, none⟩))))]) (h1 := fun _ => [(nu2 0, .cells #[.string x.kind, .slice a1_0 ((List.map eI x.c.when).length) c1_0, .int .i64 x.c.place, .slice a1_1 ((List.map eOp x.c.ops).length) c1_1, .int .i64 x.n] 66 (0, 0))]) (p1 := fun _ => []) (W1 := []) (by kernel_rfl) (fun _ => by kernel_rfl) (fun _ => trivial) (fun _ => ?_)
        refine J_return [[]] (.bool true) (by kernel_rfl) (fun a w s => ?_)
        exact s.ret (by simp) [] [] rfl rfl
      have hhv0 : heavyC x.c = 0 := by
        have h1 : ¬ heavyC x.c > 0 := by simpa using hhv
        have h2 : 0 ≤ heavyC x.c := by unfold heavyC; split <;> (try split) <;> omega
        omega
      obtain ⟨f1, f2, f3⟩ := fit_ofC (m := ⟨0, 0, 0, 0, 0, false, x.c⟩) hhv0
      refine J_skip ?_
      refine J_seq ?_
      refine J_seq ?_
      refine J_reg mixed [.rd 0 [] 0 0, .rd 1 [.o 0 none] 0 0] [] [3, 8, 10, 15, 16, 17, 105] (E1 := fun _ => [(3, .val (.slice (some (⟨b1, off1, none⟩)) l.length c)), (8, .val (.bool false)), (10, .val (.pointer (some (⟨b, 0, none⟩)))), (15, .val (.pointer (some (⟨nu1 0, 0, none⟩)))), (16, .val (.int .i64 i)), (17, .val (.pointer (some (⟨nu2 0, 0, none⟩)))), (105, .val (.string x.kind))]) (h1 := fun _ => [(nu2 0, .cells #[.string x.kind, .slice a1_0 ((List.map eI x.c.when).length) c1_0, .int .i64 x.c.place, .slice a1_1 ((List.map eOp x.c.ops).length) c1_1, .int .i64 x.n] 66 (0, 0))]) (p1 := fun _ => []) (W1 := []) (by kernel_rfl) (fun _ => by kernel_rfl) (fun _ => trivial) (fun _ => ?_)
      refine J_block ?_
      refine J_seq ?_
      refine J_reg mixed [.rd 0 [] 0 0, .rd 1 [] 0 0] [] [3, 8, 10, 15, 16, 17, 105, 116] (E1 := fun _ => [(3, .val (.slice (some (⟨b1, off1, none⟩)) l.length c)), (8, .val (.bool false)), (10, .val (.pointer (some (⟨b, 0, none⟩)))), (15, .val (.pointer (some (⟨nu1 0, 0, none⟩)))), (16, .val (.int .i64 i)), (17, .val (.pointer (some (⟨nu2 0, 0, none⟩)))), (105, .val (.string x.kind)), (116, .val (.bool (x.kind.toList == (ByteArray.mk #[99, 111, 109, 109, 105, 116]).toList)))]) (h1 := fun _ => [(nu2 0, .cells #[.string x.kind, .slice a1_0 ((List.map eI x.c.when).length) c1_0, .int .i64 x.c.place, .slice a1_1 ((List.map eOp x.c.ops).length) c1_1, .int .i64 x.n] 66 (0, 0))]) (p1 := fun _ => []) (W1 := []) (by kernel_rfl) (fun _ => by kernel_rfl) (fun _ => trivial) (fun _ => ?_)
      refine J_cond (t := x.kind.toList == (ByteArray.mk #[99, 111, 109, 109, 105, 116]).toList) (by kernel_rfl) (by kernel_rfl) (fun hk1 => ?_) (fun hk1 => ?_)
      · refine J_seq ?_
        refine JR_begin mixed [(0, true), (1, true), (2, true), (3, false), (4, false), (5, true), (6, true), (7, true), (8, false), (9, false), (10, true)] [] (by kernel_rfl) (by kernel_rfl) ?_
        refine JR_run (id := 22) (rest := [(3, false), (4, false), (5, true), (6, true), (7, true), (8, false), (9, false), (10, true)]) [.rd 0 [] 0 0, .rd 1 [] 0 0, .rd 2 [.o 0 none, .o 0 none, .o 0 none] 0 0] [3, 8, 10, 15, 16, 17, 105, 119, 121] (E1 := fun _ => [(3, .val (.slice (some (⟨b1, off1, none⟩)) l.length c)), (8, .val (.bool false)), (10, .val (.pointer (some (⟨b, 0, none⟩)))), (15, .val (.pointer (some (⟨nu1 0, 0, none⟩)))), (16, .val (.int .i64 i)), (17, .val (.pointer (some (⟨nu2 0, 0, none⟩)))), (105, .val (.string x.kind)), (119, .val (.pointer (some (⟨b, 0, none⟩)))), (121, .val (.agg #[.slice a1_0 ((List.map eI x.c.when).length) c1_0, .int .i64 x.c.place, .slice a1_1 ((List.map eOp x.c.ops).length) c1_1]))]) (h1 := fun _ => [(nu2 0, .cells #[.string x.kind, .slice a1_0 ((List.map eI x.c.when).length) c1_0, .int .i64 x.c.place, .slice a1_1 ((List.map eOp x.c.ops).length) c1_1, .int .i64 x.n] 66 (0, 0))]) (p1 := fun _ => []) (W1 := []) (fun _ => by kernel_rfl) (fun _ => trivial) (fun _ => ?_)
        refine JR_callp [] 25 #[.agg #[.slice a1_0 ((List.map eI x.c.when).length) c1_0, .int .i64 x.c.place, .slice a1_1 ((List.map eOp x.c.ops).length) c1_1]] (some 122) (by kernel_rfl) (fun w S hG => ?_)
        refine (ownCommit (c := x.c) (hG.at 2 rfl) (hG.at 3 rfl) f1 f2 f3).mono ?_
        rintro e1 w1 ⟨u1, k1, d1, u2, k2, d2, hR⟩
        refine ⟨_, _, _, hR, ?_⟩
        try simp only [List.cons_append, List.nil_append, List.append_nil]
        refine JR_call [] [0, 1] 24 #[.pointer (some (⟨b, 0, none⟩)), .agg #[.slice u1 k1 d1, .int .i64 x.c.place, .slice u2 k2 d2]] (some 123) (by kernel_rfl) (by kernel_rfl) (by decide) (fun w S M hP hG _ => ?_)
        refine (scommit (c := x.c) (hG.at 0 rfl) hP (hG.at 4 rfl) (hG.at 5 rfl) f1 f2 f3 hq0 (by omega) (by omega)).mono ?_
        rintro e1 w1 (⟨hne, v, G', hR, hv⟩ | ⟨hz, a7, k7, c7, u3, d3, u4, d4, hR⟩)
        · obtain ⟨hat, hev, rfl⟩ | ⟨hc1, hc2, pb, rfl, rfl⟩ := hv
          · refine ⟨_, _, _, hR, ?_⟩
            try simp only [List.cons_append, List.nil_append, List.append_nil]
            refine JR_run (id := 22) (rest := []) [.rd 5 [] 0 0, .rd 6 [] 0 0, .rd 7 [] 0 0, .wr 8 [] 0, .wr 9 [.o 1 none, .o 1 none, .o 1 none, .o 1 none, .o 1 none, .o 1 none, .o 1 none, .o 1 none, .o 1 none] 0, .rd 10 [] 0 0] [3, 8, 10, 15, 16, 17, 18, 19, 105] (E1 := fun nu3 => [(3, .val (.slice (some (⟨b1, off1, none⟩)) l.length c)), (8, .val (.bool false)), (10, .val (.pointer (some (⟨b, 0, none⟩)))), (15, .val (.pointer (some (⟨nu1 0, 0, none⟩)))), (16, .val (.int .i64 i)), (17, .val (.pointer (some (⟨nu2 0, 0, none⟩)))), (18, .val (.pointer (some (⟨nu3 0, 0, none⟩)))), (19, .val (v)), (105, .val (.string x.kind))]) (h1 := fun nu3 => [(nu2 0, .cells #[.string x.kind, .slice a1_0 ((List.map eI x.c.when).length) c1_0, .int .i64 x.c.place, .slice a1_1 ((List.map eOp x.c.ops).length) c1_1, .int .i64 x.n] 66 (0, 0)), (nu3 0, .cells #[.int .i64 0, .int .i64 0, .int .i64 0, .int .i64 0, .int .i64 0, .bool false, .slice none 0 0, .int .i64 0, .slice none 0 0] 37 (0, 0))]) (p1 := fun nu3 => []) (W1 := []) (fun _ => by kernel_rfl) (fun _ => trivial) (fun nu3 => ?_)
            try simp only [List.cons_append, List.nil_append, List.append_nil]
            refine JR_end ?_
            try simp only [List.cons_append, List.nil_append, List.append_nil]
            refine J_seq ?_
            try simp only [List.cons_append, List.nil_append, List.append_nil]
            refine JR_begin mixed [(0, true), (1, true), (2, true), (3, false), (4, true), (5, true), (6, true), (7, false), (8, false), (9, false), (10, false)] [] (by kernel_rfl) (by kernel_rfl) ?_
            refine JR_run (id := 23) (rest := [(3, false), (4, true), (5, true), (6, true), (7, false), (8, false), (9, false), (10, false)]) [.rd 0 [] 0 0, .rd 1 [] 0 0, .rd 2 [.o 0 none, .o 0 none, .o 0 none] 0 0] [3, 8, 10, 15, 16, 17, 18, 19, 105, 127, 129] (E1 := fun _ => [(3, .val (.slice (some (⟨b1, off1, none⟩)) l.length c)), (8, .val (.bool false)), (10, .val (.pointer (some (⟨b, 0, none⟩)))), (15, .val (.pointer (some (⟨nu1 0, 0, none⟩)))), (16, .val (.int .i64 i)), (17, .val (.pointer (some (⟨nu2 0, 0, none⟩)))), (18, .val (.pointer (some (⟨nu3 0, 0, none⟩)))), (19, .val (v)), (105, .val (.string x.kind)), (127, .val (.pointer (some (⟨nu1 0, 0, none⟩)))), (129, .val (.agg #[.slice a1_0 ((List.map eI x.c.when).length) c1_0, .int .i64 x.c.place, .slice a1_1 ((List.map eOp x.c.ops).length) c1_1]))]) (h1 := fun _ => [(nu2 0, .cells #[.string x.kind, .slice a1_0 ((List.map eI x.c.when).length) c1_0, .int .i64 x.c.place, .slice a1_1 ((List.map eOp x.c.ops).length) c1_1, .int .i64 x.n] 66 (0, 0)), (nu3 0, .cells #[.int .i64 0, .int .i64 0, .int .i64 0, .int .i64 0, .int .i64 0, .bool false, .slice none 0 0, .int .i64 0, .slice none 0 0] 37 (0, 0))]) (p1 := fun _ => []) (W1 := []) (fun _ => by kernel_rfl) (fun _ => trivial) (fun _ => ?_)
            refine JR_call [] [0, 1] 26 #[.pointer (some (⟨nu1 0, 0, none⟩)), .agg #[.slice a1_0 ((List.map eI x.c.when).length) c1_0, .int .i64 x.c.place, .slice a1_1 ((List.map eOp x.c.ops).length) c1_1]] (some 130) (by kernel_rfl) (by kernel_rfl) (by decide) (fun w S M hP hG _ => ?_)
            refine (rcommit (c := x.c) hP (hG.at 2 rfl) (hG.at 3 rfl) f1 f2 hq0 (by omega) (by omega)).mono ?_
            rintro e1 w1 (⟨_, hR⟩ | ⟨hz2, _⟩)
            · refine ⟨_, _, _, hR, ?_⟩
              try simp only [List.cons_append, List.nil_append, List.append_nil]
              refine JR_run (id := 23) (rest := []) [.rd 4 [] 0 0, .rd 5 [] 0 0, .rd 6 [] 0 0, .wr 7 [] 0, .wr 8 [] 0, .wr 9 [.o 2 none, .o 2 none, .o 2 none, .o 2 none, .o 2 none, .o 2 none, .o 2 none, .o 2 none, .o 2 none] 0, .wr 10 [.o 3 none, .o 3 none] 0] [3, 8, 10, 15, 16, 17, 18, 19, 20, 21, 105] (E1 := fun nu4 => [(3, .val (.slice (some (⟨b1, off1, none⟩)) l.length c)), (8, .val (.bool false)), (10, .val (.pointer (some (⟨b, 0, none⟩)))), (15, .val (.pointer (some (⟨nu1 0, 0, none⟩)))), (16, .val (.int .i64 i)), (17, .val (.pointer (some (⟨nu2 0, 0, none⟩)))), (18, .val (.pointer (some (⟨nu3 0, 0, none⟩)))), (19, .val (v)), (20, .val (.pointer (some (⟨nu4 0, 0, none⟩)))), (21, .val (.pointer (some (⟨nu4 1, 0, none⟩)))), (105, .val (.string x.kind))]) (h1 := fun nu4 => [(nu2 0, .cells #[.string x.kind, .slice a1_0 ((List.map eI x.c.when).length) c1_0, .int .i64 x.c.place, .slice a1_1 ((List.map eOp x.c.ops).length) c1_1, .int .i64 x.n] 66 (0, 0)), (nu3 0, .cells #[.int .i64 0, .int .i64 0, .int .i64 0, .int .i64 0, .int .i64 0, .bool false, .slice none 0 0, .int .i64 0, .slice none 0 0] 37 (0, 0)), (nu4 0, .cells #[.int .i64 0, .int .i64 0, .int .i64 0, .int .i64 0, .int .i64 0, .bool false, .slice none 0 0, .int .i64 0, .slice none 0 0] 55 (0, 0)), (nu4 1, .cells #[.int .i64 ((↑(scomErr x.c fm t).code : Int)), .int .i64 ((scomErr x.c fm t).at')] 71 (0, 0))]) (p1 := fun nu4 => []) (W1 := []) (fun _ => by kernel_rfl) (fun _ => trivial) (fun nu4 => ?_)
              try simp only [List.cons_append, List.nil_append, List.append_nil]
              refine JR_end ?_
              try simp only [List.cons_append, List.nil_append, List.append_nil]
              refine J_seq ?_
              try simp only [List.cons_append, List.nil_append, List.append_nil]
              refine JR_begin mixed [(0, true), (1, true), (2, false), (3, true), (4, true), (5, true), (7, true), (6, false), (8, false), (9, true), (10, true)] [] (by kernel_rfl) (by kernel_rfl) ?_
              refine JR_run (id := 24) (rest := [(2, false), (3, true), (4, true), (5, true), (7, true), (6, false), (8, false), (9, true), (10, true)]) [.rd 0 [] 0 0, .rd 1 [.o 3 none, .o 3 none] 0 0] [3, 8, 10, 15, 16, 17, 18, 19, 20, 21, 105, 133, 134] (E1 := fun _ => [(3, .val (.slice (some (⟨b1, off1, none⟩)) l.length c)), (8, .val (.bool false)), (10, .val (.pointer (some (⟨b, 0, none⟩)))), (15, .val (.pointer (some (⟨nu1 0, 0, none⟩)))), (16, .val (.int .i64 i)), (17, .val (.pointer (some (⟨nu2 0, 0, none⟩)))), (18, .val (.pointer (some (⟨nu3 0, 0, none⟩)))), (19, .val (v)), (20, .val (.pointer (some (⟨nu4 0, 0, none⟩)))), (21, .val (.pointer (some (⟨nu4 1, 0, none⟩)))), (105, .val (.string x.kind)), (133, .val (v)), (134, .val (.agg #[.int .i64 ((↑(scomErr x.c fm t).code : Int)), .int .i64 ((scomErr x.c fm t).at')]))]) (h1 := fun _ => [(nu2 0, .cells #[.string x.kind, .slice a1_0 ((List.map eI x.c.when).length) c1_0, .int .i64 x.c.place, .slice a1_1 ((List.map eOp x.c.ops).length) c1_1, .int .i64 x.n] 66 (0, 0)), (nu3 0, .cells #[.int .i64 0, .int .i64 0, .int .i64 0, .int .i64 0, .int .i64 0, .bool false, .slice none 0 0, .int .i64 0, .slice none 0 0] 37 (0, 0)), (nu4 0, .cells #[.int .i64 0, .int .i64 0, .int .i64 0, .int .i64 0, .int .i64 0, .bool false, .slice none 0 0, .int .i64 0, .slice none 0 0] 55 (0, 0)), (nu4 1, .cells #[.int .i64 ((↑(scomErr x.c fm t).code : Int)), .int .i64 ((scomErr x.c fm t).at')] 71 (0, 0))]) (p1 := fun _ => []) (W1 := []) (fun _ => by kernel_rfl) (fun _ => trivial) (fun _ => ?_)
              refine JR_callp [] 27 #[v, .agg #[.int .i64 ((↑(scomErr x.c fm t).code : Int)), .int .i64 ((scomErr x.c fm t).at')]] (some 135) (by kernel_rfl) (fun w S hG => ?_)
              refine (faultedErr (k := (scomErr x.c fm t).code) (a := (scomErr x.c fm t).at') (hG.at 0 rfl) hI (scomErr_le _ _ _) hev hat).mono ?_
              rintro e8 w8 hR
              refine ⟨_, _, _, hR, ?_⟩
              try simp only [List.cons_append, List.nil_append, List.append_nil]
              refine JR_run (id := 24) (rest := [(6, false), (8, false), (9, true), (10, true)]) [.rd 3 [] 0 0, .rd 4 [] 0 0, .rd 5 [.o 1 none, .o 1 none, .o 1 none, .o 1 none, .o 1 none, .o 1 none, .o 1 none, .o 1 none, .o 1 none] 0 0, .rd 7 [.o 2 none, .o 2 none, .o 2 none, .o 2 none, .o 2 none, .o 2 none, .o 2 none, .o 2 none, .o 2 none] 0 0] [3, 8, 10, 15, 16, 17, 18, 19, 20, 21, 105, 137, 138, 140] (E1 := fun _ => [(3, .val (.slice (some (⟨b1, off1, none⟩)) l.length c)), (8, .val (.bool false)), (10, .val (.pointer (some (⟨b, 0, none⟩)))), (15, .val (.pointer (some (⟨nu1 0, 0, none⟩)))), (16, .val (.int .i64 i)), (17, .val (.pointer (some (⟨nu2 0, 0, none⟩)))), (18, .val (.pointer (some (⟨nu3 0, 0, none⟩)))), (19, .val (v)), (20, .val (.pointer (some (⟨nu4 0, 0, none⟩)))), (21, .val (.pointer (some (⟨nu4 1, 0, none⟩)))), (105, .val (.string x.kind)), (137, .val (.bool false)), (138, .val (.agg #[.int .i64 0, .int .i64 0, .int .i64 0, .int .i64 0, .int .i64 0, .bool false, .slice none 0 0, .int .i64 0, .slice none 0 0])), (140, .val (.agg #[.int .i64 0, .int .i64 0, .int .i64 0, .int .i64 0, .int .i64 0, .bool false, .slice none 0 0, .int .i64 0, .slice none 0 0]))]) (h1 := fun _ => [(nu2 0, .cells #[.string x.kind, .slice a1_0 ((List.map eI x.c.when).length) c1_0, .int .i64 x.c.place, .slice a1_1 ((List.map eOp x.c.ops).length) c1_1, .int .i64 x.n] 66 (0, 0)), (nu3 0, .cells #[.int .i64 0, .int .i64 0, .int .i64 0, .int .i64 0, .int .i64 0, .bool false, .slice none 0 0, .int .i64 0, .slice none 0 0] 37 (0, 0)), (nu4 0, .cells #[.int .i64 0, .int .i64 0, .int .i64 0, .int .i64 0, .int .i64 0, .bool false, .slice none 0 0, .int .i64 0, .slice none 0 0] 55 (0, 0)), (nu4 1, .cells #[.int .i64 ((↑(scomErr x.c fm t).code : Int)), .int .i64 ((scomErr x.c fm t).at')] 71 (0, 0))]) (p1 := fun _ => []) (W1 := []) (fun _ => by kernel_rfl) (fun _ => trivial) (fun _ => ?_)
              try simp only [List.cons_append, List.nil_append, List.append_nil]

              refine JR_callp [] 29 #[.agg #[.int .i64 0, .int .i64 0, .int .i64 0, .int .i64 0, .int .i64 0, .bool false, .slice none 0 0, .int .i64 0, .slice none 0 0]] (some 139) (by kernel_rfl) (fun w S hG => ?_)
              refine (backWire (m := ⟨0, 0, 0, 0, 0, false, ⟨[], 0, []⟩⟩) rfl rfl (w0 := w) (S := S)).mono ?_
              rintro e9 w9 hR
              refine ⟨_, _, _, hR, ?_⟩
              try simp only [List.cons_append, List.nil_append, List.append_nil]
              refine JR_callp [] 28 #[.agg #[.int .i64 0, .int .i64 0, .int .i64 0, .int .i64 0, .int .i64 0, .bool false, .slice none 0 0, .int .i64 0, .slice none 0 0], .agg #[.int .i64 0, .int .i64 0, .int .i64 0, .int .i64 0, .int .i64 0, .bool false, .slice none 0 0, .int .i64 0, .slice none 0 0]] (some 141) (by kernel_rfl) (fun w S hG => ?_)
              refine (sameMessage_eq (w0 := w) (S := S) (m := ⟨0, 0, 0, 0, 0, false, ⟨[], 0, []⟩⟩) .nil .nil .nil .nil (by simp) (by simp) (by simp)).mono ?_
              rintro e9 w9 hR
              refine ⟨_, _, _, hR, ?_⟩

              try simp only [List.cons_append, List.nil_append, List.append_nil]
              refine JR_run (id := 24) (rest := []) [.rd 9 [] 0 0, .rd 10 [] 0 0] [3, 8, 10, 15, 16, 17, 18, 19, 20, 21, 105, 143] (E1 := fun _ => [(3, .val (.slice (some (⟨b1, off1, none⟩)) l.length c)), (8, .val (.bool false)), (10, .val (.pointer (some (⟨b, 0, none⟩)))), (15, .val (.pointer (some (⟨nu1 0, 0, none⟩)))), (16, .val (.int .i64 i)), (17, .val (.pointer (some (⟨nu2 0, 0, none⟩)))), (18, .val (.pointer (some (⟨nu3 0, 0, none⟩)))), (19, .val (v)), (20, .val (.pointer (some (⟨nu4 0, 0, none⟩)))), (21, .val (.pointer (some (⟨nu4 1, 0, none⟩)))), (105, .val (.string x.kind)), (143, .val (.bool false))]) (h1 := fun _ => [(nu2 0, .cells #[.string x.kind, .slice a1_0 ((List.map eI x.c.when).length) c1_0, .int .i64 x.c.place, .slice a1_1 ((List.map eOp x.c.ops).length) c1_1, .int .i64 x.n] 66 (0, 0)), (nu3 0, .cells #[.int .i64 0, .int .i64 0, .int .i64 0, .int .i64 0, .int .i64 0, .bool false, .slice none 0 0, .int .i64 0, .slice none 0 0] 37 (0, 0)), (nu4 0, .cells #[.int .i64 0, .int .i64 0, .int .i64 0, .int .i64 0, .int .i64 0, .bool false, .slice none 0 0, .int .i64 0, .slice none 0 0] 55 (0, 0)), (nu4 1, .cells #[.int .i64 ((↑(scomErr x.c fm t).code : Int)), .int .i64 ((scomErr x.c fm t).at')] 71 (0, 0))]) (p1 := fun _ => []) (W1 := []) (fun _ => by kernel_rfl) (fun _ => trivial) (fun _ => ?_)
              try simp only [List.cons_append, List.nil_append, List.append_nil]
              refine JR_end ?_
              try simp only [List.cons_append, List.nil_append, List.append_nil]
              refine J_cond_f (by kernel_rfl) (by kernel_rfl) ?_
              try simp only [List.cons_append, List.nil_append, List.append_nil]
              refine J_skip ?_
              try simp only [List.cons_append, List.nil_append, List.append_nil]
              refine J_eb ?_
              try simp only [List.cons_append, List.nil_append, List.append_nil]
              refine J_seq ?_
              try simp only [List.cons_append, List.nil_append, List.append_nil]
              refine J_show 2 rfl ?_
              refine J_norm (C' := [cObj b (.cells #[.int .i64 fm, .int .i64 to, .int .i64 sh, .int .i64 q, .int .i64 t, .slice a5 k5 c5] 86 (0, 0)), cAcc (.slice a5 k5 c5) 37 9 (List.map eMsg L), cAcc (.slice a6 k6 c6) 55 9 (List.map eMsg L)]) (G' := [(.nilIface, (dC er eb)), (.slice (some (⟨b1, off1, none⟩)) l.length c, (D.sl 5 (List.map eAct l))), (.slice (a1_0, c1_0).fst ((List.map eI x.c.when).length) c1_0, (D.sl 1 (List.map eI x.c.when))), (.slice (a1_1, c1_1).fst ((List.map eOp x.c.ops).length) c1_1, (D.sl 7 (List.map eOp x.c.ops))), (.slice u1 k1 d1, (dInts x.c.when)), (.slice u2 k2 d2, (D.sl 7 (List.map eOp x.c.ops)))]) (by kernel_rfl) (by kernel_rfl) ?_
              refine JR_begin mixed [(0, true), (3, true), (4, true), (5, true), (6, true), (1, false), (2, false), (7, false), (8, true)] [(1, []), (7, [])] (by kernel_rfl) (by kernel_rfl) ?_
              refine JR_run (id := 31) (rest := [(1, false), (2, false), (7, false), (8, true)]) [.rd 0 [] 0 0, .rd 3 [] 0 0, .rd 4 [] 0 0, .rd 5 [] 0 0, .rd 6 [.o 4 none] 0 0] [3, 8, 10, 15, 16, 17, 18, 19, 20, 21, 105, 171, 177] (E1 := fun _ => [(3, .val (.slice (some (⟨b1, off1, none⟩)) l.length c)), (8, .val (.bool false)), (10, .val (.pointer (some (⟨b, 0, none⟩)))), (15, .val (.pointer (some (⟨nu1 0, 0, none⟩)))), (16, .val (.int .i64 i)), (17, .val (.pointer (some (⟨nu2 0, 0, none⟩)))), (18, .val (.pointer (some (⟨nu3 0, 0, none⟩)))), (19, .val (v)), (20, .val (.pointer (some (⟨nu4 0, 0, none⟩)))), (21, .val (.pointer (some (⟨nu4 1, 0, none⟩)))), (105, .val (.string x.kind)), (171, .val (.pointer (some (⟨b, 0, none⟩)))), (177, .val (.slice a6 k6 c6))]) (h1 := fun _ => [(nu2 0, .cells #[.string x.kind, .slice a1_0 ((List.map eI x.c.when).length) c1_0, .int .i64 x.c.place, .slice a1_1 ((List.map eOp x.c.ops).length) c1_1, .int .i64 x.n] 66 (0, 0)), (nu3 0, .cells #[.int .i64 0, .int .i64 0, .int .i64 0, .int .i64 0, .int .i64 0, .bool false, .slice none 0 0, .int .i64 0, .slice none 0 0] 37 (0, 0)), (nu4 0, .cells #[.int .i64 0, .int .i64 0, .int .i64 0, .int .i64 0, .int .i64 0, .bool false, .slice none 0 0, .int .i64 0, .slice none 0 0] 55 (0, 0)), (nu4 1, .cells #[.int .i64 ((↑(scomErr x.c fm t).code : Int)), .int .i64 ((scomErr x.c fm t).at')] 71 (0, 0)), (nu1 0, .cells #[.int .i64 fm, .int .i64 to, .int .i64 sh, .int .i64 q, .int .i64 t, .slice a6 k6 c6] 64 (0, 0))]) (p1 := fun _ => []) (W1 := [(1, []), (7, [])]) (fun _ => by kernel_rfl) (fun _ => trivial) (fun _ => ?_)
              refine JR_call [] [0, 1] 14 #[.pointer (some (⟨b, 0, none⟩))] (some 172) (by kernel_rfl) (by kernel_rfl) (by decide) (fun w S M hP hG _ => ?_)
              refine (sagain hP (by omega) (hfit)).mono ?_
              rintro e9 w9 ⟨a9, c9, hR⟩
              refine ⟨_, _, _, hR, ?_⟩
              try simp only [List.cons_append, List.nil_append, List.append_nil]
              refine JR_callp [] 21 #[.slice a9 L.length c9] (some 173) (by kernel_rfl) (fun w S hG => ?_)
              refine (backWires (hG.at 6 rfl) (by omega)).mono ?_
              rintro e9 w9 ⟨a10, n10, c10, hR⟩
              refine ⟨_, _, _, hR, ?_⟩
              try simp only [List.cons_append, List.nil_append, List.append_nil]
              refine JR_call [] [0] 20 #[.slice a10 n10 c10, .slice a6 k6 c6] (some 178) (by kernel_rfl) (by kernel_rfl) (by decide) (fun w S M hP hG _ => ?_)
              refine (lendAcc hP hG fun S' hG' => sameMessages_eq (hG'.at 7 rfl) (hG'.at 8 rfl) (by omega) (hfit)).mono ?_
              rintro e9 w9 hR
              refine ⟨_, _, _, hR, ?_⟩
              try simp only [List.cons_append, List.nil_append, List.append_nil]
              refine JR_run (id := 31) (rest := []) [.rd 8 [] 0 0] [3, 8, 10, 15, 16, 17, 18, 19, 20, 21, 105, 179] (E1 := fun _ => [(3, .val (.slice (some (⟨b1, off1, none⟩)) l.length c)), (8, .val (.bool false)), (10, .val (.pointer (some (⟨b, 0, none⟩)))), (15, .val (.pointer (some (⟨nu1 0, 0, none⟩)))), (16, .val (.int .i64 i)), (17, .val (.pointer (some (⟨nu2 0, 0, none⟩)))), (18, .val (.pointer (some (⟨nu3 0, 0, none⟩)))), (19, .val (v)), (20, .val (.pointer (some (⟨nu4 0, 0, none⟩)))), (21, .val (.pointer (some (⟨nu4 1, 0, none⟩)))), (105, .val (.string x.kind)), (179, .val (.bool false))]) (h1 := fun _ => [(nu2 0, .cells #[.string x.kind, .slice a1_0 ((List.map eI x.c.when).length) c1_0, .int .i64 x.c.place, .slice a1_1 ((List.map eOp x.c.ops).length) c1_1, .int .i64 x.n] 66 (0, 0)), (nu3 0, .cells #[.int .i64 0, .int .i64 0, .int .i64 0, .int .i64 0, .int .i64 0, .bool false, .slice none 0 0, .int .i64 0, .slice none 0 0] 37 (0, 0)), (nu4 0, .cells #[.int .i64 0, .int .i64 0, .int .i64 0, .int .i64 0, .int .i64 0, .bool false, .slice none 0 0, .int .i64 0, .slice none 0 0] 55 (0, 0)), (nu4 1, .cells #[.int .i64 ((↑(scomErr x.c fm t).code : Int)), .int .i64 ((scomErr x.c fm t).at')] 71 (0, 0)), (nu1 0, .cells #[.int .i64 fm, .int .i64 to, .int .i64 sh, .int .i64 q, .int .i64 t, .slice a6 k6 c6] 64 (0, 0))]) (p1 := fun _ => []) (W1 := []) (fun _ => by kernel_rfl) (fun _ => trivial) (fun _ => ?_)
              try simp only [List.cons_append, List.nil_append, List.append_nil]
              refine JR_end ?_
              try simp only [List.cons_append, List.nil_append, List.append_nil]
              refine J_cond_f (by kernel_rfl) (by kernel_rfl) ?_
              try simp only [List.cons_append, List.nil_append, List.append_nil]
              refine J_skip ?_
              try simp only [List.cons_append, List.nil_append, List.append_nil]
              refine J_eb ?_
              try simp only [List.cons_append, List.nil_append, List.append_nil]
              refine J_reg mixed [.rd 0 [] 0 0, .rd 1 [] 0 1, .rd 2 [] 0 0] [] [3, 8, 10, 15, 16, 17, 18, 19, 20, 21, 105] (E1 := fun _ => [(3, .val (.slice (some (⟨b1, off1, none⟩)) l.length c)), (8, .val (.bool false)), (10, .val (.pointer (some (⟨b, 0, none⟩)))), (15, .val (.pointer (some (⟨nu1 0, 0, none⟩)))), (16, .val (.int .i64 (i + 1))), (17, .val (.pointer (some (⟨nu2 0, 0, none⟩)))), (18, .val (.pointer (some (⟨nu3 0, 0, none⟩)))), (19, .val (v)), (20, .val (.pointer (some (⟨nu4 0, 0, none⟩)))), (21, .val (.pointer (some (⟨nu4 1, 0, none⟩)))), (105, .val (.string x.kind))]) (h1 := fun _ => [(nu2 0, .cells #[.string x.kind, .slice a1_0 ((List.map eI x.c.when).length) c1_0, .int .i64 x.c.place, .slice a1_1 ((List.map eOp x.c.ops).length) c1_1, .int .i64 x.n] 66 (0, 0)), (nu3 0, .cells #[.int .i64 0, .int .i64 0, .int .i64 0, .int .i64 0, .int .i64 0, .bool false, .slice none 0 0, .int .i64 0, .slice none 0 0] 37 (0, 0)), (nu4 0, .cells #[.int .i64 0, .int .i64 0, .int .i64 0, .int .i64 0, .int .i64 0, .bool false, .slice none 0 0, .int .i64 0, .slice none 0 0] 55 (0, 0)), (nu4 1, .cells #[.int .i64 ((↑(scomErr x.c fm t).code : Int)), .int .i64 ((scomErr x.c fm t).at')] 71 (0, 0)), (nu1 0, .cells #[.int .i64 fm, .int .i64 to, .int .i64 sh, .int .i64 q, .int .i64 t, .slice a6 k6 c6] 64 (0, 0))]) (p1 := fun _ => [IntKind.i64.wrap (i + (1 : Int)) = i + (1 : Int)]) (W1 := []) (by kernel_rfl) (fun _ => by kernel_rfl) (fun _ => ⟨wrap_i64 (by omega) (by omega), trivial⟩) (fun _ => ?_)
              try simp only [List.cons_append, List.nil_append, List.append_nil]
              refine J_hide 4 rfl ?_
              refine J_norm (C' := [cObj b (.cells #[.int .i64 fm, .int .i64 to, .int .i64 sh, .int .i64 q, .int .i64 t, .slice a5 k5 c5] 86 (0, 0)), cAcc (.slice a5 k5 c5) 37 9 (List.map eMsg L), cAcc (.slice a6 k6 c6) 55 9 (List.map eMsg L), cObj (nu1 0) (.cells #[.int .i64 fm, .int .i64 to, .int .i64 sh, .int .i64 q, .int .i64 t, .slice a6 k6 c6] 64 (0, 0))]) (G' := [(.nilIface, (dC er eb)), (.slice (some (⟨b1, off1, none⟩)) l.length c, (D.sl 5 (List.map eAct l))), (.slice a1_0 ((List.map eI x.c.when).length) c1_0, (D.sl 1 (List.map eI x.c.when))), (.slice a1_1 ((List.map eOp x.c.ops).length) c1_1, (D.sl 7 (List.map eOp x.c.ops))), (.slice u1 k1 d1, (dInts x.c.when)), (.slice u2 k2 d2, (D.sl 7 (List.map eOp x.c.ops))), (.slice a9 L.length c9, (D.sl 9 (List.map eMsg L))), (.slice a10 n10 c10, (D.sl 9 (List.map eMsg L)))]) (by kernel_rfl) (by kernel_rfl) ?_
              refine J_backx ⟨i + 1, q, t, L, a5, k5, c5, a6, k6, c6⟩ [3, 8, 10, 15, 16] [] [0, 1, 3, 2] [0, 1] ?_ ?_ (by kernel_rfl) rfl rfl rfl
              · exact ⟨by simp only; omega, by simp only; omega, by simp only; omega, by simp only; omega, by simp only; omega, hfit⟩
              · simp only
                omega
            · exact absurd (by rw [hz2]) hne
          · refine ⟨_, _, _, hR, ?_⟩
            try simp only [List.cons_append, List.nil_append, List.append_nil]
            refine JR_run (id := 22) (rest := []) [.rd 5 [] 0 0, .rd 6 [] 0 0, .rd 7 [] 0 0, .wr 8 [] 0, .wr 9 [.o 1 none, .o 1 none, .o 1 none, .o 1 none, .o 1 none, .o 1 none, .o 1 none, .o 1 none, .o 1 none] 0, .rd 10 [] 0 0] [3, 8, 10, 15, 16, 17, 18, 19, 105] (E1 := fun nu3 => [(3, .val (.slice (some (⟨b1, off1, none⟩)) l.length c)), (8, .val (.bool false)), (10, .val (.pointer (some (⟨b, 0, none⟩)))), (15, .val (.pointer (some (⟨nu1 0, 0, none⟩)))), (16, .val (.int .i64 i)), (17, .val (.pointer (some (⟨nu2 0, 0, none⟩)))), (18, .val (.pointer (some (⟨nu3 0, 0, none⟩)))), (19, .val (.iface 106 (.pointer (some (⟨pb, 0, none⟩))))), (105, .val (.string x.kind))]) (h1 := fun nu3 => [(nu2 0, .cells #[.string x.kind, .slice a1_0 ((List.map eI x.c.when).length) c1_0, .int .i64 x.c.place, .slice a1_1 ((List.map eOp x.c.ops).length) c1_1, .int .i64 x.n] 66 (0, 0)), (nu3 0, .cells #[.int .i64 0, .int .i64 0, .int .i64 0, .int .i64 0, .int .i64 0, .bool false, .slice none 0 0, .int .i64 0, .slice none 0 0] 37 (0, 0))]) (p1 := fun nu3 => []) (W1 := []) (fun _ => by kernel_rfl) (fun _ => trivial) (fun nu3 => ?_)
            try simp only [List.cons_append, List.nil_append, List.append_nil]
            refine JR_end ?_
            try simp only [List.cons_append, List.nil_append, List.append_nil]
            refine J_seq ?_
            try simp only [List.cons_append, List.nil_append, List.append_nil]
            refine JR_begin mixed [(0, true), (1, true), (2, true), (3, false), (4, true), (5, true), (6, true), (7, false), (8, false), (9, false), (10, false)] [] (by kernel_rfl) (by kernel_rfl) ?_
            refine JR_run (id := 23) (rest := [(3, false), (4, true), (5, true), (6, true), (7, false), (8, false), (9, false), (10, false)]) [.rd 0 [] 0 0, .rd 1 [] 0 0, .rd 2 [.o 0 none, .o 0 none, .o 0 none] 0 0] [3, 8, 10, 15, 16, 17, 18, 19, 105, 127, 129] (E1 := fun _ => [(3, .val (.slice (some (⟨b1, off1, none⟩)) l.length c)), (8, .val (.bool false)), (10, .val (.pointer (some (⟨b, 0, none⟩)))), (15, .val (.pointer (some (⟨nu1 0, 0, none⟩)))), (16, .val (.int .i64 i)), (17, .val (.pointer (some (⟨nu2 0, 0, none⟩)))), (18, .val (.pointer (some (⟨nu3 0, 0, none⟩)))), (19, .val (.iface 106 (.pointer (some (⟨pb, 0, none⟩))))), (105, .val (.string x.kind)), (127, .val (.pointer (some (⟨nu1 0, 0, none⟩)))), (129, .val (.agg #[.slice a1_0 ((List.map eI x.c.when).length) c1_0, .int .i64 x.c.place, .slice a1_1 ((List.map eOp x.c.ops).length) c1_1]))]) (h1 := fun _ => [(nu2 0, .cells #[.string x.kind, .slice a1_0 ((List.map eI x.c.when).length) c1_0, .int .i64 x.c.place, .slice a1_1 ((List.map eOp x.c.ops).length) c1_1, .int .i64 x.n] 66 (0, 0)), (nu3 0, .cells #[.int .i64 0, .int .i64 0, .int .i64 0, .int .i64 0, .int .i64 0, .bool false, .slice none 0 0, .int .i64 0, .slice none 0 0] 37 (0, 0))]) (p1 := fun _ => []) (W1 := []) (fun _ => by kernel_rfl) (fun _ => trivial) (fun _ => ?_)
            refine JR_call [] [0, 1] 26 #[.pointer (some (⟨nu1 0, 0, none⟩)), .agg #[.slice a1_0 ((List.map eI x.c.when).length) c1_0, .int .i64 x.c.place, .slice a1_1 ((List.map eOp x.c.ops).length) c1_1]] (some 130) (by kernel_rfl) (by kernel_rfl) (by decide) (fun w S M hP hG _ => ?_)
            refine (rcommit (c := x.c) hP (hG.at 2 rfl) (hG.at 3 rfl) f1 f2 hq0 (by omega) (by omega)).mono ?_
            rintro e1 w1 (⟨_, hR⟩ | ⟨hz2, _⟩)
            · refine ⟨_, _, _, hR, ?_⟩
              try simp only [List.cons_append, List.nil_append, List.append_nil]
              refine JR_run (id := 23) (rest := []) [.rd 4 [] 0 0, .rd 5 [] 0 0, .rd 6 [] 0 0, .wr 7 [] 0, .wr 8 [] 0, .wr 9 [.o 2 none, .o 2 none, .o 2 none, .o 2 none, .o 2 none, .o 2 none, .o 2 none, .o 2 none, .o 2 none] 0, .wr 10 [.o 3 none, .o 3 none] 0] [3, 8, 10, 15, 16, 17, 18, 19, 20, 21, 105] (E1 := fun nu4 => [(3, .val (.slice (some (⟨b1, off1, none⟩)) l.length c)), (8, .val (.bool false)), (10, .val (.pointer (some (⟨b, 0, none⟩)))), (15, .val (.pointer (some (⟨nu1 0, 0, none⟩)))), (16, .val (.int .i64 i)), (17, .val (.pointer (some (⟨nu2 0, 0, none⟩)))), (18, .val (.pointer (some (⟨nu3 0, 0, none⟩)))), (19, .val (.iface 106 (.pointer (some (⟨pb, 0, none⟩))))), (20, .val (.pointer (some (⟨nu4 0, 0, none⟩)))), (21, .val (.pointer (some (⟨nu4 1, 0, none⟩)))), (105, .val (.string x.kind))]) (h1 := fun nu4 => [(nu2 0, .cells #[.string x.kind, .slice a1_0 ((List.map eI x.c.when).length) c1_0, .int .i64 x.c.place, .slice a1_1 ((List.map eOp x.c.ops).length) c1_1, .int .i64 x.n] 66 (0, 0)), (nu3 0, .cells #[.int .i64 0, .int .i64 0, .int .i64 0, .int .i64 0, .int .i64 0, .bool false, .slice none 0 0, .int .i64 0, .slice none 0 0] 37 (0, 0)), (nu4 0, .cells #[.int .i64 0, .int .i64 0, .int .i64 0, .int .i64 0, .int .i64 0, .bool false, .slice none 0 0, .int .i64 0, .slice none 0 0] 55 (0, 0)), (nu4 1, .cells #[.int .i64 ((↑(scomErr x.c fm t).code : Int)), .int .i64 ((scomErr x.c fm t).at')] 71 (0, 0))]) (p1 := fun nu4 => []) (W1 := []) (fun _ => by kernel_rfl) (fun _ => trivial) (fun nu4 => ?_)
              try simp only [List.cons_append, List.nil_append, List.append_nil]
              refine JR_end ?_
              try simp only [List.cons_append, List.nil_append, List.append_nil]
              refine J_seq ?_
              try simp only [List.cons_append, List.nil_append, List.append_nil]
              refine JR_begin mixed [(0, true), (1, true), (2, false), (3, true), (4, true), (5, true), (7, true), (6, false), (8, false), (9, true), (10, true)] [] (by kernel_rfl) (by kernel_rfl) ?_
              refine JR_run (id := 24) (rest := [(2, false), (3, true), (4, true), (5, true), (7, true), (6, false), (8, false), (9, true), (10, true)]) [.rd 0 [] 0 0, .rd 1 [.o 3 none, .o 3 none] 0 0] [3, 8, 10, 15, 16, 17, 18, 19, 20, 21, 105, 133, 134] (E1 := fun _ => [(3, .val (.slice (some (⟨b1, off1, none⟩)) l.length c)), (8, .val (.bool false)), (10, .val (.pointer (some (⟨b, 0, none⟩)))), (15, .val (.pointer (some (⟨nu1 0, 0, none⟩)))), (16, .val (.int .i64 i)), (17, .val (.pointer (some (⟨nu2 0, 0, none⟩)))), (18, .val (.pointer (some (⟨nu3 0, 0, none⟩)))), (19, .val (.iface 106 (.pointer (some (⟨pb, 0, none⟩))))), (20, .val (.pointer (some (⟨nu4 0, 0, none⟩)))), (21, .val (.pointer (some (⟨nu4 1, 0, none⟩)))), (105, .val (.string x.kind)), (133, .val (.iface 106 (.pointer (some (⟨pb, 0, none⟩))))), (134, .val (.agg #[.int .i64 ((↑(scomErr x.c fm t).code : Int)), .int .i64 ((scomErr x.c fm t).at')]))]) (h1 := fun _ => [(nu2 0, .cells #[.string x.kind, .slice a1_0 ((List.map eI x.c.when).length) c1_0, .int .i64 x.c.place, .slice a1_1 ((List.map eOp x.c.ops).length) c1_1, .int .i64 x.n] 66 (0, 0)), (nu3 0, .cells #[.int .i64 0, .int .i64 0, .int .i64 0, .int .i64 0, .int .i64 0, .bool false, .slice none 0 0, .int .i64 0, .slice none 0 0] 37 (0, 0)), (nu4 0, .cells #[.int .i64 0, .int .i64 0, .int .i64 0, .int .i64 0, .int .i64 0, .bool false, .slice none 0 0, .int .i64 0, .slice none 0 0] 55 (0, 0)), (nu4 1, .cells #[.int .i64 ((↑(scomErr x.c fm t).code : Int)), .int .i64 ((scomErr x.c fm t).at')] 71 (0, 0))]) (p1 := fun _ => []) (W1 := []) (fun _ => by kernel_rfl) (fun _ => trivial) (fun _ => ?_)
              refine JR_callp [] 27 #[.iface 106 (.pointer (some (⟨pb, 0, none⟩))), .agg #[.int .i64 ((↑(scomErr x.c fm t).code : Int)), .int .i64 ((scomErr x.c fm t).at')]] (some 135) (by kernel_rfl) (fun w S hG => ?_)
              refine (faultedAt (k := (scomErr x.c fm t).code) (at' := (scomErr x.c fm t).at') (hG.at 0 rfl) hI hc1 (scomErr_le _ _ _) (hG.at 6 rfl)).mono ?_
              rintro e8 w8 hR
              refine ⟨_, _, _, hR, ?_⟩
              try simp only [List.cons_append, List.nil_append, List.append_nil]
              refine JR_run (id := 24) (rest := [(6, false), (8, false), (9, true), (10, true)]) [.rd 3 [] 0 0, .rd 4 [] 0 0, .rd 5 [.o 1 none, .o 1 none, .o 1 none, .o 1 none, .o 1 none, .o 1 none, .o 1 none, .o 1 none, .o 1 none] 0 0, .rd 7 [.o 2 none, .o 2 none, .o 2 none, .o 2 none, .o 2 none, .o 2 none, .o 2 none, .o 2 none, .o 2 none] 0 0] [3, 8, 10, 15, 16, 17, 18, 19, 20, 21, 105, 137, 138, 140] (E1 := fun _ => [(3, .val (.slice (some (⟨b1, off1, none⟩)) l.length c)), (8, .val (.bool false)), (10, .val (.pointer (some (⟨b, 0, none⟩)))), (15, .val (.pointer (some (⟨nu1 0, 0, none⟩)))), (16, .val (.int .i64 i)), (17, .val (.pointer (some (⟨nu2 0, 0, none⟩)))), (18, .val (.pointer (some (⟨nu3 0, 0, none⟩)))), (19, .val (.iface 106 (.pointer (some (⟨pb, 0, none⟩))))), (20, .val (.pointer (some (⟨nu4 0, 0, none⟩)))), (21, .val (.pointer (some (⟨nu4 1, 0, none⟩)))), (105, .val (.string x.kind)), (137, .val (.bool false)), (138, .val (.agg #[.int .i64 0, .int .i64 0, .int .i64 0, .int .i64 0, .int .i64 0, .bool false, .slice none 0 0, .int .i64 0, .slice none 0 0])), (140, .val (.agg #[.int .i64 0, .int .i64 0, .int .i64 0, .int .i64 0, .int .i64 0, .bool false, .slice none 0 0, .int .i64 0, .slice none 0 0]))]) (h1 := fun _ => [(nu2 0, .cells #[.string x.kind, .slice a1_0 ((List.map eI x.c.when).length) c1_0, .int .i64 x.c.place, .slice a1_1 ((List.map eOp x.c.ops).length) c1_1, .int .i64 x.n] 66 (0, 0)), (nu3 0, .cells #[.int .i64 0, .int .i64 0, .int .i64 0, .int .i64 0, .int .i64 0, .bool false, .slice none 0 0, .int .i64 0, .slice none 0 0] 37 (0, 0)), (nu4 0, .cells #[.int .i64 0, .int .i64 0, .int .i64 0, .int .i64 0, .int .i64 0, .bool false, .slice none 0 0, .int .i64 0, .slice none 0 0] 55 (0, 0)), (nu4 1, .cells #[.int .i64 ((↑(scomErr x.c fm t).code : Int)), .int .i64 ((scomErr x.c fm t).at')] 71 (0, 0))]) (p1 := fun _ => []) (W1 := []) (fun _ => by kernel_rfl) (fun _ => trivial) (fun _ => ?_)
              try simp only [List.cons_append, List.nil_append, List.append_nil]

              refine JR_callp [] 29 #[.agg #[.int .i64 0, .int .i64 0, .int .i64 0, .int .i64 0, .int .i64 0, .bool false, .slice none 0 0, .int .i64 0, .slice none 0 0]] (some 139) (by kernel_rfl) (fun w S hG => ?_)
              refine (backWire (m := ⟨0, 0, 0, 0, 0, false, ⟨[], 0, []⟩⟩) rfl rfl (w0 := w) (S := S)).mono ?_
              rintro e9 w9 hR
              refine ⟨_, _, _, hR, ?_⟩
              try simp only [List.cons_append, List.nil_append, List.append_nil]
              refine JR_callp [] 28 #[.agg #[.int .i64 0, .int .i64 0, .int .i64 0, .int .i64 0, .int .i64 0, .bool false, .slice none 0 0, .int .i64 0, .slice none 0 0], .agg #[.int .i64 0, .int .i64 0, .int .i64 0, .int .i64 0, .int .i64 0, .bool false, .slice none 0 0, .int .i64 0, .slice none 0 0]] (some 141) (by kernel_rfl) (fun w S hG => ?_)
              refine (sameMessage_eq (w0 := w) (S := S) (m := ⟨0, 0, 0, 0, 0, false, ⟨[], 0, []⟩⟩) .nil .nil .nil .nil (by simp) (by simp) (by simp)).mono ?_
              rintro e9 w9 hR
              refine ⟨_, _, _, hR, ?_⟩

              try simp only [List.cons_append, List.nil_append, List.append_nil]
              refine JR_run (id := 24) (rest := []) [.rd 9 [] 0 0, .rd 10 [] 0 0] [3, 8, 10, 15, 16, 17, 18, 19, 20, 21, 105, 143] (E1 := fun _ => [(3, .val (.slice (some (⟨b1, off1, none⟩)) l.length c)), (8, .val (.bool false)), (10, .val (.pointer (some (⟨b, 0, none⟩)))), (15, .val (.pointer (some (⟨nu1 0, 0, none⟩)))), (16, .val (.int .i64 i)), (17, .val (.pointer (some (⟨nu2 0, 0, none⟩)))), (18, .val (.pointer (some (⟨nu3 0, 0, none⟩)))), (19, .val (.iface 106 (.pointer (some (⟨pb, 0, none⟩))))), (20, .val (.pointer (some (⟨nu4 0, 0, none⟩)))), (21, .val (.pointer (some (⟨nu4 1, 0, none⟩)))), (105, .val (.string x.kind)), (143, .val (.bool false))]) (h1 := fun _ => [(nu2 0, .cells #[.string x.kind, .slice a1_0 ((List.map eI x.c.when).length) c1_0, .int .i64 x.c.place, .slice a1_1 ((List.map eOp x.c.ops).length) c1_1, .int .i64 x.n] 66 (0, 0)), (nu3 0, .cells #[.int .i64 0, .int .i64 0, .int .i64 0, .int .i64 0, .int .i64 0, .bool false, .slice none 0 0, .int .i64 0, .slice none 0 0] 37 (0, 0)), (nu4 0, .cells #[.int .i64 0, .int .i64 0, .int .i64 0, .int .i64 0, .int .i64 0, .bool false, .slice none 0 0, .int .i64 0, .slice none 0 0] 55 (0, 0)), (nu4 1, .cells #[.int .i64 ((↑(scomErr x.c fm t).code : Int)), .int .i64 ((scomErr x.c fm t).at')] 71 (0, 0))]) (p1 := fun _ => []) (W1 := []) (fun _ => by kernel_rfl) (fun _ => trivial) (fun _ => ?_)
              try simp only [List.cons_append, List.nil_append, List.append_nil]
              refine JR_end ?_
              try simp only [List.cons_append, List.nil_append, List.append_nil]
              refine J_cond_f (by kernel_rfl) (by kernel_rfl) ?_
              try simp only [List.cons_append, List.nil_append, List.append_nil]
              refine J_skip ?_
              try simp only [List.cons_append, List.nil_append, List.append_nil]
              refine J_eb ?_
              try simp only [List.cons_append, List.nil_append, List.append_nil]
              refine J_seq ?_
              try simp only [List.cons_append, List.nil_append, List.append_nil]
              refine J_show 2 rfl ?_
              refine J_norm (C' := [cObj b (.cells #[.int .i64 fm, .int .i64 to, .int .i64 sh, .int .i64 q, .int .i64 t, .slice a5 k5 c5] 86 (0, 0)), cAcc (.slice a5 k5 c5) 37 9 (List.map eMsg L), cAcc (.slice a6 k6 c6) 55 9 (List.map eMsg L)]) (G' := [(.nilIface, (dC er eb)), (.slice (some (⟨b1, off1, none⟩)) l.length c, (D.sl 5 (List.map eAct l))), (.slice (a1_0, c1_0).fst ((List.map eI x.c.when).length) c1_0, (D.sl 1 (List.map eI x.c.when))), (.slice (a1_1, c1_1).fst ((List.map eOp x.c.ops).length) c1_1, (D.sl 7 (List.map eOp x.c.ops))), (.slice u1 k1 d1, (dInts x.c.when)), (.slice u2 k2 d2, (D.sl 7 (List.map eOp x.c.ops))), (.pointer (some (⟨pb, 0, none⟩)), (D.ptr [D.v (Value.int IntKind.i64 (scomErr x.c fm t).at'), D.v (Value.iface 168 (Value.pointer (some (er (scomErr x.c fm t).code))))]))]) (by kernel_rfl) (by kernel_rfl) ?_
              refine JR_begin mixed [(0, true), (3, true), (4, true), (5, true), (6, true), (1, false), (2, false), (7, false), (8, true)] [(1, []), (7, [])] (by kernel_rfl) (by kernel_rfl) ?_
              refine JR_run (id := 31) (rest := [(1, false), (2, false), (7, false), (8, true)]) [.rd 0 [] 0 0, .rd 3 [] 0 0, .rd 4 [] 0 0, .rd 5 [] 0 0, .rd 6 [.o 4 none] 0 0] [3, 8, 10, 15, 16, 17, 18, 19, 20, 21, 105, 171, 177] (E1 := fun _ => [(3, .val (.slice (some (⟨b1, off1, none⟩)) l.length c)), (8, .val (.bool false)), (10, .val (.pointer (some (⟨b, 0, none⟩)))), (15, .val (.pointer (some (⟨nu1 0, 0, none⟩)))), (16, .val (.int .i64 i)), (17, .val (.pointer (some (⟨nu2 0, 0, none⟩)))), (18, .val (.pointer (some (⟨nu3 0, 0, none⟩)))), (19, .val (.iface 106 (.pointer (some (⟨pb, 0, none⟩))))), (20, .val (.pointer (some (⟨nu4 0, 0, none⟩)))), (21, .val (.pointer (some (⟨nu4 1, 0, none⟩)))), (105, .val (.string x.kind)), (171, .val (.pointer (some (⟨b, 0, none⟩)))), (177, .val (.slice a6 k6 c6))]) (h1 := fun _ => [(nu2 0, .cells #[.string x.kind, .slice a1_0 ((List.map eI x.c.when).length) c1_0, .int .i64 x.c.place, .slice a1_1 ((List.map eOp x.c.ops).length) c1_1, .int .i64 x.n] 66 (0, 0)), (nu3 0, .cells #[.int .i64 0, .int .i64 0, .int .i64 0, .int .i64 0, .int .i64 0, .bool false, .slice none 0 0, .int .i64 0, .slice none 0 0] 37 (0, 0)), (nu4 0, .cells #[.int .i64 0, .int .i64 0, .int .i64 0, .int .i64 0, .int .i64 0, .bool false, .slice none 0 0, .int .i64 0, .slice none 0 0] 55 (0, 0)), (nu4 1, .cells #[.int .i64 ((↑(scomErr x.c fm t).code : Int)), .int .i64 ((scomErr x.c fm t).at')] 71 (0, 0)), (nu1 0, .cells #[.int .i64 fm, .int .i64 to, .int .i64 sh, .int .i64 q, .int .i64 t, .slice a6 k6 c6] 64 (0, 0))]) (p1 := fun _ => []) (W1 := [(1, []), (7, [])]) (fun _ => by kernel_rfl) (fun _ => trivial) (fun _ => ?_)
              refine JR_call [] [0, 1] 14 #[.pointer (some (⟨b, 0, none⟩))] (some 172) (by kernel_rfl) (by kernel_rfl) (by decide) (fun w S M hP hG _ => ?_)
              refine (sagain hP (by omega) (hfit)).mono ?_
              rintro e9 w9 ⟨a9, c9, hR⟩
              refine ⟨_, _, _, hR, ?_⟩
              try simp only [List.cons_append, List.nil_append, List.append_nil]
              refine JR_callp [] 21 #[.slice a9 L.length c9] (some 173) (by kernel_rfl) (fun w S hG => ?_)
              refine (backWires (hG.at 7 rfl) (by omega)).mono ?_
              rintro e9 w9 ⟨a10, n10, c10, hR⟩
              refine ⟨_, _, _, hR, ?_⟩
              try simp only [List.cons_append, List.nil_append, List.append_nil]
              refine JR_call [] [0] 20 #[.slice a10 n10 c10, .slice a6 k6 c6] (some 178) (by kernel_rfl) (by kernel_rfl) (by decide) (fun w S M hP hG _ => ?_)
              refine (lendAcc hP hG fun S' hG' => sameMessages_eq (hG'.at 8 rfl) (hG'.at 9 rfl) (by omega) (hfit)).mono ?_
              rintro e9 w9 hR
              refine ⟨_, _, _, hR, ?_⟩
              try simp only [List.cons_append, List.nil_append, List.append_nil]
              refine JR_run (id := 31) (rest := []) [.rd 8 [] 0 0] [3, 8, 10, 15, 16, 17, 18, 19, 20, 21, 105, 179] (E1 := fun _ => [(3, .val (.slice (some (⟨b1, off1, none⟩)) l.length c)), (8, .val (.bool false)), (10, .val (.pointer (some (⟨b, 0, none⟩)))), (15, .val (.pointer (some (⟨nu1 0, 0, none⟩)))), (16, .val (.int .i64 i)), (17, .val (.pointer (some (⟨nu2 0, 0, none⟩)))), (18, .val (.pointer (some (⟨nu3 0, 0, none⟩)))), (19, .val (.iface 106 (.pointer (some (⟨pb, 0, none⟩))))), (20, .val (.pointer (some (⟨nu4 0, 0, none⟩)))), (21, .val (.pointer (some (⟨nu4 1, 0, none⟩)))), (105, .val (.string x.kind)), (179, .val (.bool false))]) (h1 := fun _ => [(nu2 0, .cells #[.string x.kind, .slice a1_0 ((List.map eI x.c.when).length) c1_0, .int .i64 x.c.place, .slice a1_1 ((List.map eOp x.c.ops).length) c1_1, .int .i64 x.n] 66 (0, 0)), (nu3 0, .cells #[.int .i64 0, .int .i64 0, .int .i64 0, .int .i64 0, .int .i64 0, .bool false, .slice none 0 0, .int .i64 0, .slice none 0 0] 37 (0, 0)), (nu4 0, .cells #[.int .i64 0, .int .i64 0, .int .i64 0, .int .i64 0, .int .i64 0, .bool false, .slice none 0 0, .int .i64 0, .slice none 0 0] 55 (0, 0)), (nu4 1, .cells #[.int .i64 ((↑(scomErr x.c fm t).code : Int)), .int .i64 ((scomErr x.c fm t).at')] 71 (0, 0)), (nu1 0, .cells #[.int .i64 fm, .int .i64 to, .int .i64 sh, .int .i64 q, .int .i64 t, .slice a6 k6 c6] 64 (0, 0))]) (p1 := fun _ => []) (W1 := []) (fun _ => by kernel_rfl) (fun _ => trivial) (fun _ => ?_)
              try simp only [List.cons_append, List.nil_append, List.append_nil]
              refine JR_end ?_
              try simp only [List.cons_append, List.nil_append, List.append_nil]
              refine J_cond_f (by kernel_rfl) (by kernel_rfl) ?_
              try simp only [List.cons_append, List.nil_append, List.append_nil]
              refine J_skip ?_
              try simp only [List.cons_append, List.nil_append, List.append_nil]
              refine J_eb ?_
              try simp only [List.cons_append, List.nil_append, List.append_nil]
              refine J_reg mixed [.rd 0 [] 0 0, .rd 1 [] 0 1, .rd 2 [] 0 0] [] [3, 8, 10, 15, 16, 17, 18, 19, 20, 21, 105] (E1 := fun _ => [(3, .val (.slice (some (⟨b1, off1, none⟩)) l.length c)), (8, .val (.bool false)), (10, .val (.pointer (some (⟨b, 0, none⟩)))), (15, .val (.pointer (some (⟨nu1 0, 0, none⟩)))), (16, .val (.int .i64 (i + 1))), (17, .val (.pointer (some (⟨nu2 0, 0, none⟩)))), (18, .val (.pointer (some (⟨nu3 0, 0, none⟩)))), (19, .val (.iface 106 (.pointer (some (⟨pb, 0, none⟩))))), (20, .val (.pointer (some (⟨nu4 0, 0, none⟩)))), (21, .val (.pointer (some (⟨nu4 1, 0, none⟩)))), (105, .val (.string x.kind))]) (h1 := fun _ => [(nu2 0, .cells #[.string x.kind, .slice a1_0 ((List.map eI x.c.when).length) c1_0, .int .i64 x.c.place, .slice a1_1 ((List.map eOp x.c.ops).length) c1_1, .int .i64 x.n] 66 (0, 0)), (nu3 0, .cells #[.int .i64 0, .int .i64 0, .int .i64 0, .int .i64 0, .int .i64 0, .bool false, .slice none 0 0, .int .i64 0, .slice none 0 0] 37 (0, 0)), (nu4 0, .cells #[.int .i64 0, .int .i64 0, .int .i64 0, .int .i64 0, .int .i64 0, .bool false, .slice none 0 0, .int .i64 0, .slice none 0 0] 55 (0, 0)), (nu4 1, .cells #[.int .i64 ((↑(scomErr x.c fm t).code : Int)), .int .i64 ((scomErr x.c fm t).at')] 71 (0, 0)), (nu1 0, .cells #[.int .i64 fm, .int .i64 to, .int .i64 sh, .int .i64 q, .int .i64 t, .slice a6 k6 c6] 64 (0, 0))]) (p1 := fun _ => [IntKind.i64.wrap (i + (1 : Int)) = i + (1 : Int)]) (W1 := []) (by kernel_rfl) (fun _ => by kernel_rfl) (fun _ => ⟨wrap_i64 (by omega) (by omega), trivial⟩) (fun _ => ?_)
              try simp only [List.cons_append, List.nil_append, List.append_nil]
              refine J_hide 4 rfl ?_
              refine J_norm (C' := [cObj b (.cells #[.int .i64 fm, .int .i64 to, .int .i64 sh, .int .i64 q, .int .i64 t, .slice a5 k5 c5] 86 (0, 0)), cAcc (.slice a5 k5 c5) 37 9 (List.map eMsg L), cAcc (.slice a6 k6 c6) 55 9 (List.map eMsg L), cObj (nu1 0) (.cells #[.int .i64 fm, .int .i64 to, .int .i64 sh, .int .i64 q, .int .i64 t, .slice a6 k6 c6] 64 (0, 0))]) (G' := [(.nilIface, (dC er eb)), (.slice (some (⟨b1, off1, none⟩)) l.length c, (D.sl 5 (List.map eAct l))), (.slice a1_0 ((List.map eI x.c.when).length) c1_0, (D.sl 1 (List.map eI x.c.when))), (.slice a1_1 ((List.map eOp x.c.ops).length) c1_1, (D.sl 7 (List.map eOp x.c.ops))), (.slice u1 k1 d1, (dInts x.c.when)), (.slice u2 k2 d2, (D.sl 7 (List.map eOp x.c.ops))), (.pointer (some (⟨pb, 0, none⟩)), (D.ptr [D.v (Value.int IntKind.i64 (scomErr x.c fm t).at'), D.v (Value.iface 168 (Value.pointer (some (er (scomErr x.c fm t).code))))])), (.slice a9 L.length c9, (D.sl 9 (List.map eMsg L))), (.slice a10 n10 c10, (D.sl 9 (List.map eMsg L)))]) (by kernel_rfl) (by kernel_rfl) ?_
              refine J_backx ⟨i + 1, q, t, L, a5, k5, c5, a6, k6, c6⟩ [3, 8, 10, 15, 16] [] [0, 1, 3, 2] [0, 1] ?_ ?_ (by kernel_rfl) rfl rfl rfl
              · exact ⟨by simp only; omega, by simp only; omega, by simp only; omega, by simp only; omega, by simp only; omega, hfit⟩
              · simp only
                omega
            · exact absurd (by rw [hz2]) hne
        · have hzz := hz
          refine ⟨_, _, _, hR, ?_⟩
          try simp only [List.cons_append, List.nil_append, List.append_nil]
          refine JR_run (id := 22) (rest := []) [.rd 5 [] 0 0, .rd 6 [] 0 0, .rd 7 [] 0 0, .wr 8 [] 0, .wr 9 [.o 1 none, .o 1 none, .o 1 none, .o 1 none, .o 1 none, .o 1 none, .o 1 none, .o 1 none, .o 1 none] 0, .rd 10 [] 0 0] [3, 8, 10, 15, 16, 17, 18, 19, 105] (E1 := fun nu3 => [(3, .val (.slice (some (⟨b1, off1, none⟩)) l.length c)), (8, .val (.bool false)), (10, .val (.pointer (some (⟨b, 0, none⟩)))), (15, .val (.pointer (some (⟨nu1 0, 0, none⟩)))), (16, .val (.int .i64 i)), (17, .val (.pointer (some (⟨nu2 0, 0, none⟩)))), (18, .val (.pointer (some (⟨nu3 0, 0, none⟩)))), (19, .val (.nilIface)), (105, .val (.string x.kind))]) (h1 := fun nu3 => [(nu2 0, .cells #[.string x.kind, .slice a1_0 ((List.map eI x.c.when).length) c1_0, .int .i64 x.c.place, .slice a1_1 ((List.map eOp x.c.ops).length) c1_1, .int .i64 x.n] 66 (0, 0)), (nu3 0, .cells #[.int .i64 fm, .int .i64 to, .int .i64 sh, .int .i64 (q + 1), .int .i64 (x.c.when.getD x.c.place.toNat 0), .bool false, .slice u3 k1 d3, .int .i64 x.c.place, .slice u4 k2 d4] 37 (0, 0))]) (p1 := fun nu3 => []) (W1 := []) (fun _ => by kernel_rfl) (fun _ => trivial) (fun nu3 => ?_)
          try simp only [List.cons_append, List.nil_append, List.append_nil]
          refine JR_end ?_
          try simp only [List.cons_append, List.nil_append, List.append_nil]
          refine J_seq ?_
          try simp only [List.cons_append, List.nil_append, List.append_nil]
          refine JR_begin mixed [(0, true), (1, true), (2, true), (3, false), (4, true), (5, true), (6, true), (7, false), (8, false), (9, false), (10, false)] [] (by kernel_rfl) (by kernel_rfl) ?_
          refine JR_run (id := 23) (rest := [(3, false), (4, true), (5, true), (6, true), (7, false), (8, false), (9, false), (10, false)]) [.rd 0 [] 0 0, .rd 1 [] 0 0, .rd 2 [.o 0 none, .o 0 none, .o 0 none] 0 0] [3, 8, 10, 15, 16, 17, 18, 19, 105, 127, 129] (E1 := fun _ => [(3, .val (.slice (some (⟨b1, off1, none⟩)) l.length c)), (8, .val (.bool false)), (10, .val (.pointer (some (⟨b, 0, none⟩)))), (15, .val (.pointer (some (⟨nu1 0, 0, none⟩)))), (16, .val (.int .i64 i)), (17, .val (.pointer (some (⟨nu2 0, 0, none⟩)))), (18, .val (.pointer (some (⟨nu3 0, 0, none⟩)))), (19, .val (.nilIface)), (105, .val (.string x.kind)), (127, .val (.pointer (some (⟨nu1 0, 0, none⟩)))), (129, .val (.agg #[.slice a1_0 ((List.map eI x.c.when).length) c1_0, .int .i64 x.c.place, .slice a1_1 ((List.map eOp x.c.ops).length) c1_1]))]) (h1 := fun _ => [(nu2 0, .cells #[.string x.kind, .slice a1_0 ((List.map eI x.c.when).length) c1_0, .int .i64 x.c.place, .slice a1_1 ((List.map eOp x.c.ops).length) c1_1, .int .i64 x.n] 66 (0, 0)), (nu3 0, .cells #[.int .i64 fm, .int .i64 to, .int .i64 sh, .int .i64 (q + 1), .int .i64 (x.c.when.getD x.c.place.toNat 0), .bool false, .slice u3 k1 d3, .int .i64 x.c.place, .slice u4 k2 d4] 37 (0, 0))]) (p1 := fun _ => []) (W1 := []) (fun _ => by kernel_rfl) (fun _ => trivial) (fun _ => ?_)
          refine JR_call [] [0, 1] 26 #[.pointer (some (⟨nu1 0, 0, none⟩)), .agg #[.slice a1_0 ((List.map eI x.c.when).length) c1_0, .int .i64 x.c.place, .slice a1_1 ((List.map eOp x.c.ops).length) c1_1]] (some 130) (by kernel_rfl) (by kernel_rfl) (by decide) (fun w S M hP hG _ => ?_)
          refine (rcommit (c := x.c) hP (hG.at 2 rfl) (hG.at 3 rfl) f1 f2 hq0 (by omega) (by omega)).mono ?_
          rintro e1 w1 (⟨hne, _⟩ | ⟨_, a8, k8, c8, hR⟩)
          · exact absurd (by rw [hz]) hne
          · refine ⟨_, _, _, hR, ?_⟩
            try simp only [List.cons_append, List.nil_append, List.append_nil]
            refine JR_run (id := 23) (rest := []) [.rd 4 [] 0 0, .rd 5 [] 0 0, .rd 6 [] 0 0, .wr 7 [] 0, .wr 8 [] 0, .wr 9 [.o 2 none, .o 2 none, .o 2 none, .o 2 none, .o 2 none, .o 2 none, .o 2 none, .o 2 none, .o 2 none] 0, .wr 10 [.o 3 none, .o 3 none] 0] [3, 8, 10, 15, 16, 17, 18, 19, 20, 21, 105] (E1 := fun nu4 => [(3, .val (.slice (some (⟨b1, off1, none⟩)) l.length c)), (8, .val (.bool false)), (10, .val (.pointer (some (⟨b, 0, none⟩)))), (15, .val (.pointer (some (⟨nu1 0, 0, none⟩)))), (16, .val (.int .i64 i)), (17, .val (.pointer (some (⟨nu2 0, 0, none⟩)))), (18, .val (.pointer (some (⟨nu3 0, 0, none⟩)))), (19, .val (.nilIface)), (20, .val (.pointer (some (⟨nu4 0, 0, none⟩)))), (21, .val (.pointer (some (⟨nu4 1, 0, none⟩)))), (105, .val (.string x.kind))]) (h1 := fun nu4 => [(nu2 0, .cells #[.string x.kind, .slice a1_0 ((List.map eI x.c.when).length) c1_0, .int .i64 x.c.place, .slice a1_1 ((List.map eOp x.c.ops).length) c1_1, .int .i64 x.n] 66 (0, 0)), (nu3 0, .cells #[.int .i64 fm, .int .i64 to, .int .i64 sh, .int .i64 (q + 1), .int .i64 (x.c.when.getD x.c.place.toNat 0), .bool false, .slice u3 k1 d3, .int .i64 x.c.place, .slice u4 k2 d4] 37 (0, 0)), (nu4 0, .cells #[.int .i64 fm, .int .i64 to, .int .i64 sh, .int .i64 (q + 1), .int .i64 (x.c.when.getD x.c.place.toNat 0), .bool false, .slice a1_0 ((List.map eI x.c.when).length) c1_0, .int .i64 x.c.place, .slice a1_1 ((List.map eOp x.c.ops).length) c1_1] 55 (0, 0)), (nu4 1, .cells #[.int .i64 0, .int .i64 (-1)] 71 (0, 0))]) (p1 := fun nu4 => []) (W1 := []) (fun _ => by kernel_rfl) (fun _ => trivial) (fun nu4 => ?_)
            try simp only [List.cons_append, List.nil_append, List.append_nil]
            refine JR_end ?_
            try simp only [List.cons_append, List.nil_append, List.append_nil]
            refine J_seq ?_
            try simp only [List.cons_append, List.nil_append, List.append_nil]
            refine JR_begin mixed [(0, true), (1, true), (2, false), (3, true), (4, true), (5, true), (7, true), (6, false), (8, false), (9, true), (10, true)] [] (by kernel_rfl) (by kernel_rfl) ?_
            refine JR_run (id := 24) (rest := [(2, false), (3, true), (4, true), (5, true), (7, true), (6, false), (8, false), (9, true), (10, true)]) [.rd 0 [] 0 0, .rd 1 [.o 3 none, .o 3 none] 0 0] [3, 8, 10, 15, 16, 17, 18, 19, 20, 21, 105, 133, 134] (E1 := fun _ => [(3, .val (.slice (some (⟨b1, off1, none⟩)) l.length c)), (8, .val (.bool false)), (10, .val (.pointer (some (⟨b, 0, none⟩)))), (15, .val (.pointer (some (⟨nu1 0, 0, none⟩)))), (16, .val (.int .i64 i)), (17, .val (.pointer (some (⟨nu2 0, 0, none⟩)))), (18, .val (.pointer (some (⟨nu3 0, 0, none⟩)))), (19, .val (.nilIface)), (20, .val (.pointer (some (⟨nu4 0, 0, none⟩)))), (21, .val (.pointer (some (⟨nu4 1, 0, none⟩)))), (105, .val (.string x.kind)), (133, .val (.nilIface)), (134, .val (.agg #[.int .i64 0, .int .i64 (-1)]))]) (h1 := fun _ => [(nu2 0, .cells #[.string x.kind, .slice a1_0 ((List.map eI x.c.when).length) c1_0, .int .i64 x.c.place, .slice a1_1 ((List.map eOp x.c.ops).length) c1_1, .int .i64 x.n] 66 (0, 0)), (nu3 0, .cells #[.int .i64 fm, .int .i64 to, .int .i64 sh, .int .i64 (q + 1), .int .i64 (x.c.when.getD x.c.place.toNat 0), .bool false, .slice u3 k1 d3, .int .i64 x.c.place, .slice u4 k2 d4] 37 (0, 0)), (nu4 0, .cells #[.int .i64 fm, .int .i64 to, .int .i64 sh, .int .i64 (q + 1), .int .i64 (x.c.when.getD x.c.place.toNat 0), .bool false, .slice a1_0 ((List.map eI x.c.when).length) c1_0, .int .i64 x.c.place, .slice a1_1 ((List.map eOp x.c.ops).length) c1_1] 55 (0, 0)), (nu4 1, .cells #[.int .i64 0, .int .i64 (-1)] 71 (0, 0))]) (p1 := fun _ => []) (W1 := []) (fun _ => by kernel_rfl) (fun _ => trivial) (fun _ => ?_)
            refine JR_callp [] 27 #[.nilIface, .agg #[.int .i64 0, .int .i64 (-1)]] (some 135) (by kernel_rfl) (fun w S hG => ?_)
            refine (faultedErr (k := 0) (a := -1) (hG.at 0 rfl) hI (by decide) (.inl ⟨rfl, rfl⟩) rfl).mono ?_
            rintro e8 w8 hR
            refine ⟨_, _, _, hR, ?_⟩
            try simp only [List.cons_append, List.nil_append, List.append_nil]
            refine JR_run (id := 24) (rest := [(6, false), (8, false), (9, true), (10, true)]) [.rd 3 [] 0 0, .rd 4 [] 0 0, .rd 5 [.o 1 none, .o 1 none, .o 1 none, .o 1 none, .o 1 none, .o 1 none, .o 1 none, .o 1 none, .o 1 none] 0 0, .rd 7 [.o 2 none, .o 2 none, .o 2 none, .o 2 none, .o 2 none, .o 2 none, .o 2 none, .o 2 none, .o 2 none] 0 0] [3, 8, 10, 15, 16, 17, 18, 19, 20, 21, 105, 137, 138, 140] (E1 := fun _ => [(3, .val (.slice (some (⟨b1, off1, none⟩)) l.length c)), (8, .val (.bool false)), (10, .val (.pointer (some (⟨b, 0, none⟩)))), (15, .val (.pointer (some (⟨nu1 0, 0, none⟩)))), (16, .val (.int .i64 i)), (17, .val (.pointer (some (⟨nu2 0, 0, none⟩)))), (18, .val (.pointer (some (⟨nu3 0, 0, none⟩)))), (19, .val (.nilIface)), (20, .val (.pointer (some (⟨nu4 0, 0, none⟩)))), (21, .val (.pointer (some (⟨nu4 1, 0, none⟩)))), (105, .val (.string x.kind)), (137, .val (.bool false)), (138, .val (.agg #[.int .i64 fm, .int .i64 to, .int .i64 sh, .int .i64 (q + 1), .int .i64 (x.c.when.getD x.c.place.toNat 0), .bool false, .slice u3 k1 d3, .int .i64 x.c.place, .slice u4 k2 d4])), (140, .val (.agg #[.int .i64 fm, .int .i64 to, .int .i64 sh, .int .i64 (q + 1), .int .i64 (x.c.when.getD x.c.place.toNat 0), .bool false, .slice a1_0 ((List.map eI x.c.when).length) c1_0, .int .i64 x.c.place, .slice a1_1 ((List.map eOp x.c.ops).length) c1_1]))]) (h1 := fun _ => [(nu2 0, .cells #[.string x.kind, .slice a1_0 ((List.map eI x.c.when).length) c1_0, .int .i64 x.c.place, .slice a1_1 ((List.map eOp x.c.ops).length) c1_1, .int .i64 x.n] 66 (0, 0)), (nu3 0, .cells #[.int .i64 fm, .int .i64 to, .int .i64 sh, .int .i64 (q + 1), .int .i64 (x.c.when.getD x.c.place.toNat 0), .bool false, .slice u3 k1 d3, .int .i64 x.c.place, .slice u4 k2 d4] 37 (0, 0)), (nu4 0, .cells #[.int .i64 fm, .int .i64 to, .int .i64 sh, .int .i64 (q + 1), .int .i64 (x.c.when.getD x.c.place.toNat 0), .bool false, .slice a1_0 ((List.map eI x.c.when).length) c1_0, .int .i64 x.c.place, .slice a1_1 ((List.map eOp x.c.ops).length) c1_1] 55 (0, 0)), (nu4 1, .cells #[.int .i64 0, .int .i64 (-1)] 71 (0, 0))]) (p1 := fun _ => []) (W1 := []) (fun _ => by kernel_rfl) (fun _ => trivial) (fun _ => ?_)
            try simp only [List.cons_append, List.nil_append, List.append_nil]

            refine JR_callp [] 29 #[.agg #[.int .i64 fm, .int .i64 to, .int .i64 sh, .int .i64 (q + 1), .int .i64 (x.c.when.getD x.c.place.toNat 0), .bool false, .slice u3 k1 d3, .int .i64 x.c.place, .slice u4 k2 d4]] (some 139) (by kernel_rfl) (fun w S hG => ?_)
            refine (backWire (m := (⟨fm, to, sh, q + 1, x.c.when.getD x.c.place.toNat 0, false, x.c⟩ : MsgT)) rfl rfl (w0 := w) (S := S)).mono ?_
            rintro e9 w9 hR
            refine ⟨_, _, _, hR, ?_⟩
            try simp only [List.cons_append, List.nil_append, List.append_nil]
            refine JR_callp [] 28 #[.agg #[.int .i64 fm, .int .i64 to, .int .i64 sh, .int .i64 (q + 1), .int .i64 (x.c.when.getD x.c.place.toNat 0), .bool false, .slice u3 k1 d3, .int .i64 x.c.place, .slice u4 k2 d4], .agg #[.int .i64 fm, .int .i64 to, .int .i64 sh, .int .i64 (q + 1), .int .i64 (x.c.when.getD x.c.place.toNat 0), .bool false, .slice a1_0 ((List.map eI x.c.when).length) c1_0, .int .i64 x.c.place, .slice a1_1 ((List.map eOp x.c.ops).length) c1_1]] (some 141) (by kernel_rfl) (fun w S hG => ?_)
            refine (sameMessage_eq (w0 := w) (S := S) (m := (⟨fm, to, sh, q + 1, x.c.when.getD x.c.place.toNat 0, false, x.c⟩ : MsgT)) (hG.at 6 rfl) (hG.at 7 rfl) (hG.at 2 rfl) (hG.at 3 rfl) f1 f2 f3).mono ?_
            rintro e9 w9 hR
            refine ⟨_, _, _, hR, ?_⟩

            try simp only [List.cons_append, List.nil_append, List.append_nil]
            refine JR_run (id := 24) (rest := []) [.rd 9 [] 0 0, .rd 10 [] 0 0] [3, 8, 10, 15, 16, 17, 18, 19, 20, 21, 105, 143] (E1 := fun _ => [(3, .val (.slice (some (⟨b1, off1, none⟩)) l.length c)), (8, .val (.bool false)), (10, .val (.pointer (some (⟨b, 0, none⟩)))), (15, .val (.pointer (some (⟨nu1 0, 0, none⟩)))), (16, .val (.int .i64 i)), (17, .val (.pointer (some (⟨nu2 0, 0, none⟩)))), (18, .val (.pointer (some (⟨nu3 0, 0, none⟩)))), (19, .val (.nilIface)), (20, .val (.pointer (some (⟨nu4 0, 0, none⟩)))), (21, .val (.pointer (some (⟨nu4 1, 0, none⟩)))), (105, .val (.string x.kind)), (143, .val (.bool false))]) (h1 := fun _ => [(nu2 0, .cells #[.string x.kind, .slice a1_0 ((List.map eI x.c.when).length) c1_0, .int .i64 x.c.place, .slice a1_1 ((List.map eOp x.c.ops).length) c1_1, .int .i64 x.n] 66 (0, 0)), (nu3 0, .cells #[.int .i64 fm, .int .i64 to, .int .i64 sh, .int .i64 (q + 1), .int .i64 (x.c.when.getD x.c.place.toNat 0), .bool false, .slice u3 k1 d3, .int .i64 x.c.place, .slice u4 k2 d4] 37 (0, 0)), (nu4 0, .cells #[.int .i64 fm, .int .i64 to, .int .i64 sh, .int .i64 (q + 1), .int .i64 (x.c.when.getD x.c.place.toNat 0), .bool false, .slice a1_0 ((List.map eI x.c.when).length) c1_0, .int .i64 x.c.place, .slice a1_1 ((List.map eOp x.c.ops).length) c1_1] 55 (0, 0)), (nu4 1, .cells #[.int .i64 0, .int .i64 (-1)] 71 (0, 0))]) (p1 := fun _ => []) (W1 := []) (fun _ => by kernel_rfl) (fun _ => trivial) (fun _ => ?_)
            try simp only [List.cons_append, List.nil_append, List.append_nil]
            refine JR_end ?_
            try simp only [List.cons_append, List.nil_append, List.append_nil]
            refine J_cond_f (by kernel_rfl) (by kernel_rfl) ?_
            try simp only [List.cons_append, List.nil_append, List.append_nil]
            refine J_skip ?_
            try simp only [List.cons_append, List.nil_append, List.append_nil]
            refine J_eb ?_
            try simp only [List.cons_append, List.nil_append, List.append_nil]
            refine J_seq ?_
            try simp only [List.cons_append, List.nil_append, List.append_nil]
            refine J_show 2 rfl ?_
            refine J_norm (C' := [cObj b (.cells #[.int .i64 fm, .int .i64 to, .int .i64 sh, .int .i64 (q + 1), .int .i64 (x.c.when.getD x.c.place.toNat 0), .slice a7 k7 c7] 86 (0, 0)), cAcc (.slice a7 k7 c7) 37 9 (List.map eMsg (L ++ [MsgT.mk fm to sh (q + 1) (x.c.when.getD x.c.place.toNat 0) false x.c])), cAcc (.slice a8 k8 c8) 55 9 (List.map eMsg (L ++ [MsgT.mk fm to sh (q + 1) (x.c.when.getD x.c.place.toNat 0) false x.c]))]) (G' := [(.nilIface, (dC er eb)), (.slice (some (⟨b1, off1, none⟩)) l.length c, (D.sl 5 (List.map eAct l))), (.slice (a1_0, c1_0).fst ((List.map eI x.c.when).length) c1_0, (D.sl 1 (List.map eI x.c.when))), (.slice (a1_1, c1_1).fst ((List.map eOp x.c.ops).length) c1_1, (D.sl 7 (List.map eOp x.c.ops))), (.slice u1 k1 d1, (dInts x.c.when)), (.slice u2 k2 d2, (D.sl 7 (List.map eOp x.c.ops))), (.slice u3 k1 d3, (dInts x.c.when)), (.slice u4 k2 d4, (D.sl 7 (List.map eOp x.c.ops)))]) (by kernel_rfl) (by kernel_rfl) ?_
            refine JR_begin mixed [(0, true), (3, true), (4, true), (5, true), (6, true), (1, false), (2, false), (7, false), (8, true)] [(1, []), (7, [])] (by kernel_rfl) (by kernel_rfl) ?_
            refine JR_run (id := 31) (rest := [(1, false), (2, false), (7, false), (8, true)]) [.rd 0 [] 0 0, .rd 3 [] 0 0, .rd 4 [] 0 0, .rd 5 [] 0 0, .rd 6 [.o 4 none] 0 0] [3, 8, 10, 15, 16, 17, 18, 19, 20, 21, 105, 171, 177] (E1 := fun _ => [(3, .val (.slice (some (⟨b1, off1, none⟩)) l.length c)), (8, .val (.bool false)), (10, .val (.pointer (some (⟨b, 0, none⟩)))), (15, .val (.pointer (some (⟨nu1 0, 0, none⟩)))), (16, .val (.int .i64 i)), (17, .val (.pointer (some (⟨nu2 0, 0, none⟩)))), (18, .val (.pointer (some (⟨nu3 0, 0, none⟩)))), (19, .val (.nilIface)), (20, .val (.pointer (some (⟨nu4 0, 0, none⟩)))), (21, .val (.pointer (some (⟨nu4 1, 0, none⟩)))), (105, .val (.string x.kind)), (171, .val (.pointer (some (⟨b, 0, none⟩)))), (177, .val (.slice a8 k8 c8))]) (h1 := fun _ => [(nu2 0, .cells #[.string x.kind, .slice a1_0 ((List.map eI x.c.when).length) c1_0, .int .i64 x.c.place, .slice a1_1 ((List.map eOp x.c.ops).length) c1_1, .int .i64 x.n] 66 (0, 0)), (nu3 0, .cells #[.int .i64 fm, .int .i64 to, .int .i64 sh, .int .i64 (q + 1), .int .i64 (x.c.when.getD x.c.place.toNat 0), .bool false, .slice u3 k1 d3, .int .i64 x.c.place, .slice u4 k2 d4] 37 (0, 0)), (nu4 0, .cells #[.int .i64 fm, .int .i64 to, .int .i64 sh, .int .i64 (q + 1), .int .i64 (x.c.when.getD x.c.place.toNat 0), .bool false, .slice a1_0 ((List.map eI x.c.when).length) c1_0, .int .i64 x.c.place, .slice a1_1 ((List.map eOp x.c.ops).length) c1_1] 55 (0, 0)), (nu4 1, .cells #[.int .i64 0, .int .i64 (-1)] 71 (0, 0)), (nu1 0, .cells #[.int .i64 fm, .int .i64 to, .int .i64 sh, .int .i64 (q + 1), .int .i64 (x.c.when.getD x.c.place.toNat 0), .slice a8 k8 c8] 64 (0, 0))]) (p1 := fun _ => []) (W1 := [(1, []), (7, [])]) (fun _ => by kernel_rfl) (fun _ => trivial) (fun _ => ?_)
            refine JR_call [] [0, 1] 14 #[.pointer (some (⟨b, 0, none⟩))] (some 172) (by kernel_rfl) (by kernel_rfl) (by decide) (fun w S M hP hG _ => ?_)
            refine (sagain hP (by rw [List.length_append, List.length_singleton]; omega) (fun y hy => by rcases List.mem_append.1 hy with hy | hy; exact hfit y hy; rw [List.mem_singleton] at hy; subst hy; exact ⟨f1, f2, f3⟩)).mono ?_
            rintro e9 w9 ⟨a9, c9, hR⟩
            refine ⟨_, _, _, hR, ?_⟩
            try simp only [List.cons_append, List.nil_append, List.append_nil]
            refine JR_callp [] 21 #[.slice a9 ((L ++ [MsgT.mk fm to sh (q + 1) (x.c.when.getD x.c.place.toNat 0) false x.c]).length) c9] (some 173) (by kernel_rfl) (fun w S hG => ?_)
            refine (backWires (hG.at 8 rfl) (by rw [List.length_append, List.length_singleton]; omega)).mono ?_
            rintro e9 w9 ⟨a10, n10, c10, hR⟩
            refine ⟨_, _, _, hR, ?_⟩
            try simp only [List.cons_append, List.nil_append, List.append_nil]
            refine JR_call [] [0] 20 #[.slice a10 n10 c10, .slice a8 k8 c8] (some 178) (by kernel_rfl) (by kernel_rfl) (by decide) (fun w S M hP hG _ => ?_)
            refine (lendAcc hP hG fun S' hG' => sameMessages_eq (hG'.at 9 rfl) (hG'.at 10 rfl) (by rw [List.length_append, List.length_singleton]; omega) (fun y hy => by rcases List.mem_append.1 hy with hy | hy; exact hfit y hy; rw [List.mem_singleton] at hy; subst hy; exact ⟨f1, f2, f3⟩)).mono ?_
            rintro e9 w9 hR
            refine ⟨_, _, _, hR, ?_⟩
            try simp only [List.cons_append, List.nil_append, List.append_nil]
            refine JR_run (id := 31) (rest := []) [.rd 8 [] 0 0] [3, 8, 10, 15, 16, 17, 18, 19, 20, 21, 105, 179] (E1 := fun _ => [(3, .val (.slice (some (⟨b1, off1, none⟩)) l.length c)), (8, .val (.bool false)), (10, .val (.pointer (some (⟨b, 0, none⟩)))), (15, .val (.pointer (some (⟨nu1 0, 0, none⟩)))), (16, .val (.int .i64 i)), (17, .val (.pointer (some (⟨nu2 0, 0, none⟩)))), (18, .val (.pointer (some (⟨nu3 0, 0, none⟩)))), (19, .val (.nilIface)), (20, .val (.pointer (some (⟨nu4 0, 0, none⟩)))), (21, .val (.pointer (some (⟨nu4 1, 0, none⟩)))), (105, .val (.string x.kind)), (179, .val (.bool false))]) (h1 := fun _ => [(nu2 0, .cells #[.string x.kind, .slice a1_0 ((List.map eI x.c.when).length) c1_0, .int .i64 x.c.place, .slice a1_1 ((List.map eOp x.c.ops).length) c1_1, .int .i64 x.n] 66 (0, 0)), (nu3 0, .cells #[.int .i64 fm, .int .i64 to, .int .i64 sh, .int .i64 (q + 1), .int .i64 (x.c.when.getD x.c.place.toNat 0), .bool false, .slice u3 k1 d3, .int .i64 x.c.place, .slice u4 k2 d4] 37 (0, 0)), (nu4 0, .cells #[.int .i64 fm, .int .i64 to, .int .i64 sh, .int .i64 (q + 1), .int .i64 (x.c.when.getD x.c.place.toNat 0), .bool false, .slice a1_0 ((List.map eI x.c.when).length) c1_0, .int .i64 x.c.place, .slice a1_1 ((List.map eOp x.c.ops).length) c1_1] 55 (0, 0)), (nu4 1, .cells #[.int .i64 0, .int .i64 (-1)] 71 (0, 0)), (nu1 0, .cells #[.int .i64 fm, .int .i64 to, .int .i64 sh, .int .i64 (q + 1), .int .i64 (x.c.when.getD x.c.place.toNat 0), .slice a8 k8 c8] 64 (0, 0))]) (p1 := fun _ => []) (W1 := []) (fun _ => by kernel_rfl) (fun _ => trivial) (fun _ => ?_)
            try simp only [List.cons_append, List.nil_append, List.append_nil]
            refine JR_end ?_
            try simp only [List.cons_append, List.nil_append, List.append_nil]
            refine J_cond_f (by kernel_rfl) (by kernel_rfl) ?_
            try simp only [List.cons_append, List.nil_append, List.append_nil]
            refine J_skip ?_
            try simp only [List.cons_append, List.nil_append, List.append_nil]
            refine J_eb ?_
            try simp only [List.cons_append, List.nil_append, List.append_nil]
            refine J_reg mixed [.rd 0 [] 0 0, .rd 1 [] 0 1, .rd 2 [] 0 0] [] [3, 8, 10, 15, 16, 17, 18, 19, 20, 21, 105] (E1 := fun _ => [(3, .val (.slice (some (⟨b1, off1, none⟩)) l.length c)), (8, .val (.bool false)), (10, .val (.pointer (some (⟨b, 0, none⟩)))), (15, .val (.pointer (some (⟨nu1 0, 0, none⟩)))), (16, .val (.int .i64 (i + 1))), (17, .val (.pointer (some (⟨nu2 0, 0, none⟩)))), (18, .val (.pointer (some (⟨nu3 0, 0, none⟩)))), (19, .val (.nilIface)), (20, .val (.pointer (some (⟨nu4 0, 0, none⟩)))), (21, .val (.pointer (some (⟨nu4 1, 0, none⟩)))), (105, .val (.string x.kind))]) (h1 := fun _ => [(nu2 0, .cells #[.string x.kind, .slice a1_0 ((List.map eI x.c.when).length) c1_0, .int .i64 x.c.place, .slice a1_1 ((List.map eOp x.c.ops).length) c1_1, .int .i64 x.n] 66 (0, 0)), (nu3 0, .cells #[.int .i64 fm, .int .i64 to, .int .i64 sh, .int .i64 (q + 1), .int .i64 (x.c.when.getD x.c.place.toNat 0), .bool false, .slice u3 k1 d3, .int .i64 x.c.place, .slice u4 k2 d4] 37 (0, 0)), (nu4 0, .cells #[.int .i64 fm, .int .i64 to, .int .i64 sh, .int .i64 (q + 1), .int .i64 (x.c.when.getD x.c.place.toNat 0), .bool false, .slice a1_0 ((List.map eI x.c.when).length) c1_0, .int .i64 x.c.place, .slice a1_1 ((List.map eOp x.c.ops).length) c1_1] 55 (0, 0)), (nu4 1, .cells #[.int .i64 0, .int .i64 (-1)] 71 (0, 0)), (nu1 0, .cells #[.int .i64 fm, .int .i64 to, .int .i64 sh, .int .i64 (q + 1), .int .i64 (x.c.when.getD x.c.place.toNat 0), .slice a8 k8 c8] 64 (0, 0))]) (p1 := fun _ => [IntKind.i64.wrap (i + (1 : Int)) = i + (1 : Int)]) (W1 := []) (by kernel_rfl) (fun _ => by kernel_rfl) (fun _ => ⟨wrap_i64 (by omega) (by omega), trivial⟩) (fun _ => ?_)
            try simp only [List.cons_append, List.nil_append, List.append_nil]
            refine J_hide 4 rfl ?_
            refine J_norm (C' := [cObj b (.cells #[.int .i64 fm, .int .i64 to, .int .i64 sh, .int .i64 (q + 1), .int .i64 (x.c.when.getD x.c.place.toNat 0), .slice a7 k7 c7] 86 (0, 0)), cAcc (.slice a7 k7 c7) 37 9 (List.map eMsg (L ++ [MsgT.mk fm to sh (q + 1) (x.c.when.getD x.c.place.toNat 0) false x.c])), cAcc (.slice a8 k8 c8) 55 9 (List.map eMsg (L ++ [MsgT.mk fm to sh (q + 1) (x.c.when.getD x.c.place.toNat 0) false x.c])), cObj (nu1 0) (.cells #[.int .i64 fm, .int .i64 to, .int .i64 sh, .int .i64 (q + 1), .int .i64 (x.c.when.getD x.c.place.toNat 0), .slice a8 k8 c8] 64 (0, 0))]) (G' := [(.nilIface, (dC er eb)), (.slice (some (⟨b1, off1, none⟩)) l.length c, (D.sl 5 (List.map eAct l))), (.slice a1_0 ((List.map eI x.c.when).length) c1_0, (D.sl 1 (List.map eI x.c.when))), (.slice a1_1 ((List.map eOp x.c.ops).length) c1_1, (D.sl 7 (List.map eOp x.c.ops))), (.slice u1 k1 d1, (dInts x.c.when)), (.slice u2 k2 d2, (D.sl 7 (List.map eOp x.c.ops))), (.slice u3 k1 d3, (dInts x.c.when)), (.slice u4 k2 d4, (D.sl 7 (List.map eOp x.c.ops))), (.slice a9 ((L ++ [MsgT.mk fm to sh (q + 1) (x.c.when.getD x.c.place.toNat 0) false x.c]).length) c9, (D.sl 9 (List.map eMsg (L ++ [MsgT.mk fm to sh (q + 1) (x.c.when.getD x.c.place.toNat 0) false x.c])))), (.slice a10 n10 c10, (D.sl 9 (List.map eMsg (L ++ [MsgT.mk fm to sh (q + 1) (x.c.when.getD x.c.place.toNat 0) false x.c]))))]) (by kernel_rfl) (by kernel_rfl) ?_
            refine J_backx ⟨i + 1, q + 1, x.c.when.getD x.c.place.toNat 0, L ++ [(⟨fm, to, sh, q + 1, x.c.when.getD x.c.place.toNat 0, false, x.c⟩ : MsgT)], a7, k7, c7, a8, k8, c8⟩ [3, 8, 10, 15, 16] [] [0, 1, 3, 2] [0, 1] ?_ ?_ (by kernel_rfl) rfl rfl rfl
            · exact ⟨by simp only; omega, by simp only; omega, by simp only; omega, by simp only; omega, by simp only; rw [List.length_append, List.length_singleton]; omega, fun y hy => by rcases List.mem_append.1 hy with hy | hy; exact hfit y hy; rw [List.mem_singleton] at hy; subst hy; exact ⟨f1, f2, f3⟩⟩
            · simp only
              omega
      · have hk0 := hk1
        refine J_seq ?_
        refine J_reg mixed [.rd 0 [] 0 0, .rd 1 [] 0 0] [] [3, 8, 10, 15, 16, 17, 105, 144] (E1 := fun _ => [(3, .val (.slice (some (⟨b1, off1, none⟩)) l.length c)), (8, .val (.bool false)), (10, .val (.pointer (some (⟨b, 0, none⟩)))), (15, .val (.pointer (some (⟨nu1 0, 0, none⟩)))), (16, .val (.int .i64 i)), (17, .val (.pointer (some (⟨nu2 0, 0, none⟩)))), (105, .val (.string x.kind)), (144, .val (.bool (x.kind.toList == (ByteArray.mk #[98, 101, 97, 116]).toList)))]) (h1 := fun _ => [(nu2 0, .cells #[.string x.kind, .slice a1_0 ((List.map eI x.c.when).length) c1_0, .int .i64 x.c.place, .slice a1_1 ((List.map eOp x.c.ops).length) c1_1, .int .i64 x.n] 66 (0, 0))]) (p1 := fun _ => []) (W1 := []) (by kernel_rfl) (fun _ => by kernel_rfl) (fun _ => trivial) (fun _ => ?_)
        refine J_cond (t := x.kind.toList == (ByteArray.mk #[98, 101, 97, 116]).toList) (by kernel_rfl) (by kernel_rfl) (fun hk2 => ?_) (fun hk2 => ?_)
        · refine J_seq ?_
          refine JR_begin mixed [(0, true), (1, true), (2, true), (3, false), (4, true), (5, true), (6, true), (7, false), (8, false), (9, true)] [] (by kernel_rfl) (by kernel_rfl) ?_
          refine JR_run (id := 27) (rest := [(3, false), (4, true), (5, true), (6, true), (7, false), (8, false), (9, true)]) [.rd 0 [] 0 0, .rd 1 [] 0 0, .rd 2 [.o 0 none] 0 0] [3, 8, 10, 15, 16, 17, 105, 147, 149] (E1 := fun _ => [(3, .val (.slice (some (⟨b1, off1, none⟩)) l.length c)), (8, .val (.bool false)), (10, .val (.pointer (some (⟨b, 0, none⟩)))), (15, .val (.pointer (some (⟨nu1 0, 0, none⟩)))), (16, .val (.int .i64 i)), (17, .val (.pointer (some (⟨nu2 0, 0, none⟩)))), (105, .val (.string x.kind)), (147, .val (.pointer (some (⟨b, 0, none⟩)))), (149, .val (.int .i64 x.n))]) (h1 := fun _ => [(nu2 0, .cells #[.string x.kind, .slice a1_0 ((List.map eI x.c.when).length) c1_0, .int .i64 x.c.place, .slice a1_1 ((List.map eOp x.c.ops).length) c1_1, .int .i64 x.n] 66 (0, 0))]) (p1 := fun _ => []) (W1 := []) (fun _ => by kernel_rfl) (fun _ => trivial) (fun _ => ?_)
          refine JR_call [] [0, 1] 10 #[.pointer (some (⟨b, 0, none⟩)), .int .i64 x.n] (some 150) (by kernel_rfl) (by kernel_rfl) (by decide) (fun w S M hP hG _ => ?_)
          refine (sbeat (hG.at 0 rfl) hP hq0 (by omega) (by omega)).mono ?_
          rintro e1 w1 (⟨hne, hR⟩ | ⟨hz, a7, k7, c7, u3, d3, u4, d4, hR⟩)
          · refine ⟨_, _, _, hR, ?_⟩
            try simp only [List.cons_append, List.nil_append, List.append_nil]
            refine JR_run (id := 27) (rest := []) [.rd 4 [] 0 0, .rd 5 [] 0 0, .rd 6 [] 0 0, .wr 7 [] 0, .wr 8 [.o 1 none, .o 1 none, .o 1 none, .o 1 none, .o 1 none, .o 1 none, .o 1 none, .o 1 none, .o 1 none] 0, .rd 9 [] 0 0] [3, 8, 10, 15, 16, 17, 22, 23, 105] (E1 := fun nu3 => [(3, .val (.slice (some (⟨b1, off1, none⟩)) l.length c)), (8, .val (.bool false)), (10, .val (.pointer (some (⟨b, 0, none⟩)))), (15, .val (.pointer (some (⟨nu1 0, 0, none⟩)))), (16, .val (.int .i64 i)), (17, .val (.pointer (some (⟨nu2 0, 0, none⟩)))), (22, .val (.pointer (some (⟨nu3 0, 0, none⟩)))), (23, .val (.iface 168 (.pointer (some (er (beatErr t x.n)))))), (105, .val (.string x.kind))]) (h1 := fun nu3 => [(nu2 0, .cells #[.string x.kind, .slice a1_0 ((List.map eI x.c.when).length) c1_0, .int .i64 x.c.place, .slice a1_1 ((List.map eOp x.c.ops).length) c1_1, .int .i64 x.n] 66 (0, 0)), (nu3 0, .cells #[.int .i64 0, .int .i64 0, .int .i64 0, .int .i64 0, .int .i64 0, .bool false, .slice none 0 0, .int .i64 0, .slice none 0 0] 37 (0, 0))]) (p1 := fun nu3 => []) (W1 := []) (fun _ => by kernel_rfl) (fun _ => trivial) (fun nu3 => ?_)
            try simp only [List.cons_append, List.nil_append, List.append_nil]
            refine JR_end ?_
            try simp only [List.cons_append, List.nil_append, List.append_nil]
            refine J_seq ?_
            try simp only [List.cons_append, List.nil_append, List.append_nil]
            refine JR_begin mixed [(0, true), (1, true), (2, true), (3, false), (4, true), (5, true), (6, true), (7, false), (8, false), (9, true)] [] (by kernel_rfl) (by kernel_rfl) ?_
            refine JR_run (id := 28) (rest := [(3, false), (4, true), (5, true), (6, true), (7, false), (8, false), (9, true)]) [.rd 0 [] 0 0, .rd 1 [] 0 0, .rd 2 [.o 0 none] 0 0] [3, 8, 10, 15, 16, 17, 22, 23, 105, 154, 156] (E1 := fun _ => [(3, .val (.slice (some (⟨b1, off1, none⟩)) l.length c)), (8, .val (.bool false)), (10, .val (.pointer (some (⟨b, 0, none⟩)))), (15, .val (.pointer (some (⟨nu1 0, 0, none⟩)))), (16, .val (.int .i64 i)), (17, .val (.pointer (some (⟨nu2 0, 0, none⟩)))), (22, .val (.pointer (some (⟨nu3 0, 0, none⟩)))), (23, .val (.iface 168 (.pointer (some (er (beatErr t x.n)))))), (105, .val (.string x.kind)), (154, .val (.pointer (some (⟨nu1 0, 0, none⟩)))), (156, .val (.int .i64 x.n))]) (h1 := fun _ => [(nu2 0, .cells #[.string x.kind, .slice a1_0 ((List.map eI x.c.when).length) c1_0, .int .i64 x.c.place, .slice a1_1 ((List.map eOp x.c.ops).length) c1_1, .int .i64 x.n] 66 (0, 0)), (nu3 0, .cells #[.int .i64 0, .int .i64 0, .int .i64 0, .int .i64 0, .int .i64 0, .bool false, .slice none 0 0, .int .i64 0, .slice none 0 0] 37 (0, 0))]) (p1 := fun _ => []) (W1 := []) (fun _ => by kernel_rfl) (fun _ => trivial) (fun _ => ?_)
            refine JR_call [] [0, 1] 30 #[.pointer (some (⟨nu1 0, 0, none⟩)), .int .i64 x.n] (some 157) (by kernel_rfl) (by kernel_rfl) (by decide) (fun w S M hP hG _ => ?_)
            refine (rbeat hP hq0 (by omega) (by omega)).mono ?_
            rintro e1 w1 (⟨_, hR⟩ | ⟨hz, _⟩)
            · refine ⟨_, _, _, hR, ?_⟩
              try simp only [List.cons_append, List.nil_append, List.append_nil]
              refine JR_run (id := 28) (rest := []) [.rd 4 [] 0 0, .rd 5 [] 0 0, .rd 6 [] 0 0, .wr 7 [] 0, .wr 8 [.o 2 none, .o 2 none, .o 2 none, .o 2 none, .o 2 none, .o 2 none, .o 2 none, .o 2 none, .o 2 none] 0, .rd 9 [] 0 0] [3, 8, 10, 15, 16, 17, 22, 23, 24, 25, 105] (E1 := fun nu4 => [(3, .val (.slice (some (⟨b1, off1, none⟩)) l.length c)), (8, .val (.bool false)), (10, .val (.pointer (some (⟨b, 0, none⟩)))), (15, .val (.pointer (some (⟨nu1 0, 0, none⟩)))), (16, .val (.int .i64 i)), (17, .val (.pointer (some (⟨nu2 0, 0, none⟩)))), (22, .val (.pointer (some (⟨nu3 0, 0, none⟩)))), (23, .val (.iface 168 (.pointer (some (er (beatErr t x.n)))))), (24, .val (.pointer (some (⟨nu4 0, 0, none⟩)))), (25, .val (.int .i64 ((↑(beatErr t x.n) : Int)))), (105, .val (.string x.kind))]) (h1 := fun nu4 => [(nu2 0, .cells #[.string x.kind, .slice a1_0 ((List.map eI x.c.when).length) c1_0, .int .i64 x.c.place, .slice a1_1 ((List.map eOp x.c.ops).length) c1_1, .int .i64 x.n] 66 (0, 0)), (nu3 0, .cells #[.int .i64 0, .int .i64 0, .int .i64 0, .int .i64 0, .int .i64 0, .bool false, .slice none 0 0, .int .i64 0, .slice none 0 0] 37 (0, 0)), (nu4 0, .cells #[.int .i64 0, .int .i64 0, .int .i64 0, .int .i64 0, .int .i64 0, .bool false, .slice none 0 0, .int .i64 0, .slice none 0 0] 55 (0, 0))]) (p1 := fun nu4 => []) (W1 := []) (fun _ => by kernel_rfl) (fun _ => trivial) (fun nu4 => ?_)
              try simp only [List.cons_append, List.nil_append, List.append_nil]
              refine JR_end ?_
              try simp only [List.cons_append, List.nil_append, List.append_nil]
              refine J_seq ?_
              try simp only [List.cons_append, List.nil_append, List.append_nil]
              refine JR_begin mixed [(0, true), (1, true), (2, false), (3, true), (4, true), (5, true), (7, true), (6, false), (8, false), (9, true), (10, true)] [] (by kernel_rfl) (by kernel_rfl) ?_
              refine JR_run (id := 29) (rest := [(2, false), (3, true), (4, true), (5, true), (7, true), (6, false), (8, false), (9, true), (10, true)]) [.rd 0 [] 0 0, .rd 1 [] 0 0] [3, 8, 10, 15, 16, 17, 22, 23, 24, 25, 105, 160, 161] (E1 := fun _ => [(3, .val (.slice (some (⟨b1, off1, none⟩)) l.length c)), (8, .val (.bool false)), (10, .val (.pointer (some (⟨b, 0, none⟩)))), (15, .val (.pointer (some (⟨nu1 0, 0, none⟩)))), (16, .val (.int .i64 i)), (17, .val (.pointer (some (⟨nu2 0, 0, none⟩)))), (22, .val (.pointer (some (⟨nu3 0, 0, none⟩)))), (23, .val (.iface 168 (.pointer (some (er (beatErr t x.n)))))), (24, .val (.pointer (some (⟨nu4 0, 0, none⟩)))), (25, .val (.int .i64 ((↑(beatErr t x.n) : Int)))), (105, .val (.string x.kind)), (160, .val (.iface 168 (.pointer (some (er (beatErr t x.n)))))), (161, .val (.int .i64 ((↑(beatErr t x.n) : Int))))]) (h1 := fun _ => [(nu2 0, .cells #[.string x.kind, .slice a1_0 ((List.map eI x.c.when).length) c1_0, .int .i64 x.c.place, .slice a1_1 ((List.map eOp x.c.ops).length) c1_1, .int .i64 x.n] 66 (0, 0)), (nu3 0, .cells #[.int .i64 0, .int .i64 0, .int .i64 0, .int .i64 0, .int .i64 0, .bool false, .slice none 0 0, .int .i64 0, .slice none 0 0] 37 (0, 0)), (nu4 0, .cells #[.int .i64 0, .int .i64 0, .int .i64 0, .int .i64 0, .int .i64 0, .bool false, .slice none 0 0, .int .i64 0, .slice none 0 0] 55 (0, 0))]) (p1 := fun _ => []) (W1 := []) (fun _ => by kernel_rfl) (fun _ => trivial) (fun _ => ?_)
              refine JR_callp [] 19 #[.iface 168 (.pointer (some (er (beatErr t x.n)))), .int .i64 ((↑(beatErr t x.n) : Int))] (some 162) (by kernel_rfl) (fun w S hG => ?_)
              refine (codedErr (k := beatErr t x.n) (c := (beatErr t x.n : Nat)) (hG.at 0 rfl) hI (by unfold beatErr; split <;> (try split) <;> omega) (.inr ⟨hne, rfl⟩)).mono ?_
              rintro e8 w8 hR
              rw [decide_eq_true rfl] at hR
              refine ⟨_, _, _, hR, ?_⟩
              try simp only [List.cons_append, List.nil_append, List.append_nil]
              refine JR_run (id := 29) (rest := [(6, false), (8, false), (9, true), (10, true)]) [.rd 3 [] 0 0, .rd 4 [] 0 0, .rd 5 [.o 1 none, .o 1 none, .o 1 none, .o 1 none, .o 1 none, .o 1 none, .o 1 none, .o 1 none, .o 1 none] 0 0, .rd 7 [.o 2 none, .o 2 none, .o 2 none, .o 2 none, .o 2 none, .o 2 none, .o 2 none, .o 2 none, .o 2 none] 0 0] [3, 8, 10, 15, 16, 17, 22, 23, 24, 25, 105, 164, 165, 167] (E1 := fun _ => [(3, .val (.slice (some (⟨b1, off1, none⟩)) l.length c)), (8, .val (.bool false)), (10, .val (.pointer (some (⟨b, 0, none⟩)))), (15, .val (.pointer (some (⟨nu1 0, 0, none⟩)))), (16, .val (.int .i64 i)), (17, .val (.pointer (some (⟨nu2 0, 0, none⟩)))), (22, .val (.pointer (some (⟨nu3 0, 0, none⟩)))), (23, .val (.iface 168 (.pointer (some (er (beatErr t x.n)))))), (24, .val (.pointer (some (⟨nu4 0, 0, none⟩)))), (25, .val (.int .i64 ((↑(beatErr t x.n) : Int)))), (105, .val (.string x.kind)), (164, .val (.bool false)), (165, .val (.agg #[.int .i64 0, .int .i64 0, .int .i64 0, .int .i64 0, .int .i64 0, .bool false, .slice none 0 0, .int .i64 0, .slice none 0 0])), (167, .val (.agg #[.int .i64 0, .int .i64 0, .int .i64 0, .int .i64 0, .int .i64 0, .bool false, .slice none 0 0, .int .i64 0, .slice none 0 0]))]) (h1 := fun _ => [(nu2 0, .cells #[.string x.kind, .slice a1_0 ((List.map eI x.c.when).length) c1_0, .int .i64 x.c.place, .slice a1_1 ((List.map eOp x.c.ops).length) c1_1, .int .i64 x.n] 66 (0, 0)), (nu3 0, .cells #[.int .i64 0, .int .i64 0, .int .i64 0, .int .i64 0, .int .i64 0, .bool false, .slice none 0 0, .int .i64 0, .slice none 0 0] 37 (0, 0)), (nu4 0, .cells #[.int .i64 0, .int .i64 0, .int .i64 0, .int .i64 0, .int .i64 0, .bool false, .slice none 0 0, .int .i64 0, .slice none 0 0] 55 (0, 0))]) (p1 := fun _ => []) (W1 := []) (fun _ => by kernel_rfl) (fun _ => trivial) (fun _ => ?_)
              try simp only [List.cons_append, List.nil_append, List.append_nil]

              refine JR_callp [] 29 #[.agg #[.int .i64 0, .int .i64 0, .int .i64 0, .int .i64 0, .int .i64 0, .bool false, .slice none 0 0, .int .i64 0, .slice none 0 0]] (some 166) (by kernel_rfl) (fun w S hG => ?_)
              refine (backWire (m := ⟨0, 0, 0, 0, 0, false, ⟨[], 0, []⟩⟩) rfl rfl (w0 := w) (S := S)).mono ?_
              rintro e9 w9 hR
              refine ⟨_, _, _, hR, ?_⟩
              try simp only [List.cons_append, List.nil_append, List.append_nil]
              refine JR_callp [] 28 #[.agg #[.int .i64 0, .int .i64 0, .int .i64 0, .int .i64 0, .int .i64 0, .bool false, .slice none 0 0, .int .i64 0, .slice none 0 0], .agg #[.int .i64 0, .int .i64 0, .int .i64 0, .int .i64 0, .int .i64 0, .bool false, .slice none 0 0, .int .i64 0, .slice none 0 0]] (some 168) (by kernel_rfl) (fun w S hG => ?_)
              refine (sameMessage_eq (w0 := w) (S := S) (m := ⟨0, 0, 0, 0, 0, false, ⟨[], 0, []⟩⟩) .nil .nil .nil .nil (by simp) (by simp) (by simp)).mono ?_
              rintro e9 w9 hR
              refine ⟨_, _, _, hR, ?_⟩

              try simp only [List.cons_append, List.nil_append, List.append_nil]
              refine JR_run (id := 29) (rest := []) [.rd 9 [] 0 0, .rd 10 [] 0 0] [3, 8, 10, 15, 16, 17, 22, 23, 24, 25, 105, 170] (E1 := fun _ => [(3, .val (.slice (some (⟨b1, off1, none⟩)) l.length c)), (8, .val (.bool false)), (10, .val (.pointer (some (⟨b, 0, none⟩)))), (15, .val (.pointer (some (⟨nu1 0, 0, none⟩)))), (16, .val (.int .i64 i)), (17, .val (.pointer (some (⟨nu2 0, 0, none⟩)))), (22, .val (.pointer (some (⟨nu3 0, 0, none⟩)))), (23, .val (.iface 168 (.pointer (some (er (beatErr t x.n)))))), (24, .val (.pointer (some (⟨nu4 0, 0, none⟩)))), (25, .val (.int .i64 ((↑(beatErr t x.n) : Int)))), (105, .val (.string x.kind)), (170, .val (.bool false))]) (h1 := fun _ => [(nu2 0, .cells #[.string x.kind, .slice a1_0 ((List.map eI x.c.when).length) c1_0, .int .i64 x.c.place, .slice a1_1 ((List.map eOp x.c.ops).length) c1_1, .int .i64 x.n] 66 (0, 0)), (nu3 0, .cells #[.int .i64 0, .int .i64 0, .int .i64 0, .int .i64 0, .int .i64 0, .bool false, .slice none 0 0, .int .i64 0, .slice none 0 0] 37 (0, 0)), (nu4 0, .cells #[.int .i64 0, .int .i64 0, .int .i64 0, .int .i64 0, .int .i64 0, .bool false, .slice none 0 0, .int .i64 0, .slice none 0 0] 55 (0, 0))]) (p1 := fun _ => []) (W1 := []) (fun _ => by kernel_rfl) (fun _ => trivial) (fun _ => ?_)
              try simp only [List.cons_append, List.nil_append, List.append_nil]
              refine JR_end ?_
              try simp only [List.cons_append, List.nil_append, List.append_nil]
              refine J_cond_f (by kernel_rfl) (by kernel_rfl) ?_
              try simp only [List.cons_append, List.nil_append, List.append_nil]
              refine J_skip ?_
              try simp only [List.cons_append, List.nil_append, List.append_nil]
              refine J_eb ?_
              try simp only [List.cons_append, List.nil_append, List.append_nil]
              refine J_seq ?_
              try simp only [List.cons_append, List.nil_append, List.append_nil]
              refine J_show 2 rfl ?_
              refine J_norm (C' := [cObj b (.cells #[.int .i64 fm, .int .i64 to, .int .i64 sh, .int .i64 q, .int .i64 t, .slice a5 k5 c5] 86 (0, 0)), cAcc (.slice a5 k5 c5) 37 9 (List.map eMsg L), cAcc (.slice a6 k6 c6) 55 9 (List.map eMsg L)]) (G' := [(.nilIface, (dC er eb)), (.slice (some (⟨b1, off1, none⟩)) l.length c, (D.sl 5 (List.map eAct l))), (.slice (a1_0, c1_0).fst ((List.map eI x.c.when).length) c1_0, (D.sl 1 (List.map eI x.c.when))), (.slice (a1_1, c1_1).fst ((List.map eOp x.c.ops).length) c1_1, (D.sl 7 (List.map eOp x.c.ops)))]) (by kernel_rfl) (by kernel_rfl) ?_
              refine JR_begin mixed [(0, true), (3, true), (4, true), (5, true), (6, true), (1, false), (2, false), (7, false), (8, true)] [(1, []), (7, [])] (by kernel_rfl) (by kernel_rfl) ?_
              refine JR_run (id := 31) (rest := [(1, false), (2, false), (7, false), (8, true)]) [.rd 0 [] 0 0, .rd 3 [] 0 0, .rd 4 [] 0 0, .rd 5 [] 0 0, .rd 6 [.o 3 none] 0 0] [3, 8, 10, 15, 16, 17, 22, 23, 24, 25, 105, 171, 177] (E1 := fun _ => [(3, .val (.slice (some (⟨b1, off1, none⟩)) l.length c)), (8, .val (.bool false)), (10, .val (.pointer (some (⟨b, 0, none⟩)))), (15, .val (.pointer (some (⟨nu1 0, 0, none⟩)))), (16, .val (.int .i64 i)), (17, .val (.pointer (some (⟨nu2 0, 0, none⟩)))), (22, .val (.pointer (some (⟨nu3 0, 0, none⟩)))), (23, .val (.iface 168 (.pointer (some (er (beatErr t x.n)))))), (24, .val (.pointer (some (⟨nu4 0, 0, none⟩)))), (25, .val (.int .i64 ((↑(beatErr t x.n) : Int)))), (105, .val (.string x.kind)), (171, .val (.pointer (some (⟨b, 0, none⟩)))), (177, .val (.slice a6 k6 c6))]) (h1 := fun _ => [(nu2 0, .cells #[.string x.kind, .slice a1_0 ((List.map eI x.c.when).length) c1_0, .int .i64 x.c.place, .slice a1_1 ((List.map eOp x.c.ops).length) c1_1, .int .i64 x.n] 66 (0, 0)), (nu3 0, .cells #[.int .i64 0, .int .i64 0, .int .i64 0, .int .i64 0, .int .i64 0, .bool false, .slice none 0 0, .int .i64 0, .slice none 0 0] 37 (0, 0)), (nu4 0, .cells #[.int .i64 0, .int .i64 0, .int .i64 0, .int .i64 0, .int .i64 0, .bool false, .slice none 0 0, .int .i64 0, .slice none 0 0] 55 (0, 0)), (nu1 0, .cells #[.int .i64 fm, .int .i64 to, .int .i64 sh, .int .i64 q, .int .i64 t, .slice a6 k6 c6] 64 (0, 0))]) (p1 := fun _ => []) (W1 := [(1, []), (7, [])]) (fun _ => by kernel_rfl) (fun _ => trivial) (fun _ => ?_)
              refine JR_call [] [0, 1] 14 #[.pointer (some (⟨b, 0, none⟩))] (some 172) (by kernel_rfl) (by kernel_rfl) (by decide) (fun w S M hP hG _ => ?_)
              refine (sagain hP (by omega) (hfit)).mono ?_
              rintro e9 w9 ⟨a9, c9, hR⟩
              refine ⟨_, _, _, hR, ?_⟩
              try simp only [List.cons_append, List.nil_append, List.append_nil]
              refine JR_callp [] 21 #[.slice a9 L.length c9] (some 173) (by kernel_rfl) (fun w S hG => ?_)
              refine (backWires (hG.at 4 rfl) (by omega)).mono ?_
              rintro e9 w9 ⟨a10, n10, c10, hR⟩
              refine ⟨_, _, _, hR, ?_⟩
              try simp only [List.cons_append, List.nil_append, List.append_nil]
              refine JR_call [] [0] 20 #[.slice a10 n10 c10, .slice a6 k6 c6] (some 178) (by kernel_rfl) (by kernel_rfl) (by decide) (fun w S M hP hG _ => ?_)
              refine (lendAcc hP hG fun S' hG' => sameMessages_eq (hG'.at 5 rfl) (hG'.at 6 rfl) (by omega) (hfit)).mono ?_
              rintro e9 w9 hR
              refine ⟨_, _, _, hR, ?_⟩
              try simp only [List.cons_append, List.nil_append, List.append_nil]
              refine JR_run (id := 31) (rest := []) [.rd 8 [] 0 0] [3, 8, 10, 15, 16, 17, 22, 23, 24, 25, 105, 179] (E1 := fun _ => [(3, .val (.slice (some (⟨b1, off1, none⟩)) l.length c)), (8, .val (.bool false)), (10, .val (.pointer (some (⟨b, 0, none⟩)))), (15, .val (.pointer (some (⟨nu1 0, 0, none⟩)))), (16, .val (.int .i64 i)), (17, .val (.pointer (some (⟨nu2 0, 0, none⟩)))), (22, .val (.pointer (some (⟨nu3 0, 0, none⟩)))), (23, .val (.iface 168 (.pointer (some (er (beatErr t x.n)))))), (24, .val (.pointer (some (⟨nu4 0, 0, none⟩)))), (25, .val (.int .i64 ((↑(beatErr t x.n) : Int)))), (105, .val (.string x.kind)), (179, .val (.bool false))]) (h1 := fun _ => [(nu2 0, .cells #[.string x.kind, .slice a1_0 ((List.map eI x.c.when).length) c1_0, .int .i64 x.c.place, .slice a1_1 ((List.map eOp x.c.ops).length) c1_1, .int .i64 x.n] 66 (0, 0)), (nu3 0, .cells #[.int .i64 0, .int .i64 0, .int .i64 0, .int .i64 0, .int .i64 0, .bool false, .slice none 0 0, .int .i64 0, .slice none 0 0] 37 (0, 0)), (nu4 0, .cells #[.int .i64 0, .int .i64 0, .int .i64 0, .int .i64 0, .int .i64 0, .bool false, .slice none 0 0, .int .i64 0, .slice none 0 0] 55 (0, 0)), (nu1 0, .cells #[.int .i64 fm, .int .i64 to, .int .i64 sh, .int .i64 q, .int .i64 t, .slice a6 k6 c6] 64 (0, 0))]) (p1 := fun _ => []) (W1 := []) (fun _ => by kernel_rfl) (fun _ => trivial) (fun _ => ?_)
              try simp only [List.cons_append, List.nil_append, List.append_nil]
              refine JR_end ?_
              try simp only [List.cons_append, List.nil_append, List.append_nil]
              refine J_cond_f (by kernel_rfl) (by kernel_rfl) ?_
              try simp only [List.cons_append, List.nil_append, List.append_nil]
              refine J_skip ?_
              try simp only [List.cons_append, List.nil_append, List.append_nil]
              refine J_eb ?_
              try simp only [List.cons_append, List.nil_append, List.append_nil]
              refine J_reg mixed [.rd 0 [] 0 0, .rd 1 [] 0 1, .rd 2 [] 0 0] [] [3, 8, 10, 15, 16, 17, 22, 23, 24, 25, 105] (E1 := fun _ => [(3, .val (.slice (some (⟨b1, off1, none⟩)) l.length c)), (8, .val (.bool false)), (10, .val (.pointer (some (⟨b, 0, none⟩)))), (15, .val (.pointer (some (⟨nu1 0, 0, none⟩)))), (16, .val (.int .i64 (i + 1))), (17, .val (.pointer (some (⟨nu2 0, 0, none⟩)))), (22, .val (.pointer (some (⟨nu3 0, 0, none⟩)))), (23, .val (.iface 168 (.pointer (some (er (beatErr t x.n)))))), (24, .val (.pointer (some (⟨nu4 0, 0, none⟩)))), (25, .val (.int .i64 ((↑(beatErr t x.n) : Int)))), (105, .val (.string x.kind))]) (h1 := fun _ => [(nu2 0, .cells #[.string x.kind, .slice a1_0 ((List.map eI x.c.when).length) c1_0, .int .i64 x.c.place, .slice a1_1 ((List.map eOp x.c.ops).length) c1_1, .int .i64 x.n] 66 (0, 0)), (nu3 0, .cells #[.int .i64 0, .int .i64 0, .int .i64 0, .int .i64 0, .int .i64 0, .bool false, .slice none 0 0, .int .i64 0, .slice none 0 0] 37 (0, 0)), (nu4 0, .cells #[.int .i64 0, .int .i64 0, .int .i64 0, .int .i64 0, .int .i64 0, .bool false, .slice none 0 0, .int .i64 0, .slice none 0 0] 55 (0, 0)), (nu1 0, .cells #[.int .i64 fm, .int .i64 to, .int .i64 sh, .int .i64 q, .int .i64 t, .slice a6 k6 c6] 64 (0, 0))]) (p1 := fun _ => [IntKind.i64.wrap (i + (1 : Int)) = i + (1 : Int)]) (W1 := []) (by kernel_rfl) (fun _ => by kernel_rfl) (fun _ => ⟨wrap_i64 (by omega) (by omega), trivial⟩) (fun _ => ?_)
              try simp only [List.cons_append, List.nil_append, List.append_nil]
              refine J_hide 3 rfl ?_
              refine J_norm (C' := [cObj b (.cells #[.int .i64 fm, .int .i64 to, .int .i64 sh, .int .i64 q, .int .i64 t, .slice a5 k5 c5] 86 (0, 0)), cAcc (.slice a5 k5 c5) 37 9 (List.map eMsg L), cAcc (.slice a6 k6 c6) 55 9 (List.map eMsg L), cObj (nu1 0) (.cells #[.int .i64 fm, .int .i64 to, .int .i64 sh, .int .i64 q, .int .i64 t, .slice a6 k6 c6] 64 (0, 0))]) (G' := [(.nilIface, (dC er eb)), (.slice (some (⟨b1, off1, none⟩)) l.length c, (D.sl 5 (List.map eAct l))), (.slice a1_0 ((List.map eI x.c.when).length) c1_0, (D.sl 1 (List.map eI x.c.when))), (.slice a1_1 ((List.map eOp x.c.ops).length) c1_1, (D.sl 7 (List.map eOp x.c.ops))), (.slice a9 L.length c9, (D.sl 9 (List.map eMsg L))), (.slice a10 n10 c10, (D.sl 9 (List.map eMsg L)))]) (by kernel_rfl) (by kernel_rfl) ?_
              refine J_backx ⟨i + 1, q, t, L, a5, k5, c5, a6, k6, c6⟩ [3, 8, 10, 15, 16] [] [0, 1, 3, 2] [0, 1] ?_ ?_ (by kernel_rfl) rfl rfl rfl
              · exact ⟨by simp only; omega, by simp only; omega, by simp only; omega, by simp only; omega, by simp only; omega, hfit⟩
              · simp only
                omega

            · exact absurd hz hne
          · refine ⟨_, _, _, hR, ?_⟩
            try simp only [List.cons_append, List.nil_append, List.append_nil]
            refine JR_run (id := 27) (rest := []) [.rd 4 [] 0 0, .rd 5 [] 0 0, .rd 6 [] 0 0, .wr 7 [] 0, .wr 8 [.o 1 none, .o 1 none, .o 1 none, .o 1 none, .o 1 none, .o 1 none, .o 1 none, .o 1 none, .o 1 none] 0, .rd 9 [] 0 0] [3, 8, 10, 15, 16, 17, 22, 23, 105] (E1 := fun nu3 => [(3, .val (.slice (some (⟨b1, off1, none⟩)) l.length c)), (8, .val (.bool false)), (10, .val (.pointer (some (⟨b, 0, none⟩)))), (15, .val (.pointer (some (⟨nu1 0, 0, none⟩)))), (16, .val (.int .i64 i)), (17, .val (.pointer (some (⟨nu2 0, 0, none⟩)))), (22, .val (.pointer (some (⟨nu3 0, 0, none⟩)))), (23, .val (.nilIface)), (105, .val (.string x.kind))]) (h1 := fun nu3 => [(nu2 0, .cells #[.string x.kind, .slice a1_0 ((List.map eI x.c.when).length) c1_0, .int .i64 x.c.place, .slice a1_1 ((List.map eOp x.c.ops).length) c1_1, .int .i64 x.n] 66 (0, 0)), (nu3 0, .cells #[.int .i64 fm, .int .i64 to, .int .i64 sh, .int .i64 (q + 1), .int .i64 x.n, .bool true, .slice u3 0 d3, .int .i64 0, .slice u4 0 d4] 37 (0, 0))]) (p1 := fun nu3 => []) (W1 := []) (fun _ => by kernel_rfl) (fun _ => trivial) (fun nu3 => ?_)
            try simp only [List.cons_append, List.nil_append, List.append_nil]
            refine JR_end ?_
            try simp only [List.cons_append, List.nil_append, List.append_nil]
            refine J_seq ?_
            try simp only [List.cons_append, List.nil_append, List.append_nil]
            refine JR_begin mixed [(0, true), (1, true), (2, true), (3, false), (4, true), (5, true), (6, true), (7, false), (8, false), (9, true)] [] (by kernel_rfl) (by kernel_rfl) ?_
            refine JR_run (id := 28) (rest := [(3, false), (4, true), (5, true), (6, true), (7, false), (8, false), (9, true)]) [.rd 0 [] 0 0, .rd 1 [] 0 0, .rd 2 [.o 0 none] 0 0] [3, 8, 10, 15, 16, 17, 22, 23, 105, 154, 156] (E1 := fun _ => [(3, .val (.slice (some (⟨b1, off1, none⟩)) l.length c)), (8, .val (.bool false)), (10, .val (.pointer (some (⟨b, 0, none⟩)))), (15, .val (.pointer (some (⟨nu1 0, 0, none⟩)))), (16, .val (.int .i64 i)), (17, .val (.pointer (some (⟨nu2 0, 0, none⟩)))), (22, .val (.pointer (some (⟨nu3 0, 0, none⟩)))), (23, .val (.nilIface)), (105, .val (.string x.kind)), (154, .val (.pointer (some (⟨nu1 0, 0, none⟩)))), (156, .val (.int .i64 x.n))]) (h1 := fun _ => [(nu2 0, .cells #[.string x.kind, .slice a1_0 ((List.map eI x.c.when).length) c1_0, .int .i64 x.c.place, .slice a1_1 ((List.map eOp x.c.ops).length) c1_1, .int .i64 x.n] 66 (0, 0)), (nu3 0, .cells #[.int .i64 fm, .int .i64 to, .int .i64 sh, .int .i64 (q + 1), .int .i64 x.n, .bool true, .slice u3 0 d3, .int .i64 0, .slice u4 0 d4] 37 (0, 0))]) (p1 := fun _ => []) (W1 := []) (fun _ => by kernel_rfl) (fun _ => trivial) (fun _ => ?_)
            refine JR_call [] [0, 1] 30 #[.pointer (some (⟨nu1 0, 0, none⟩)), .int .i64 x.n] (some 157) (by kernel_rfl) (by kernel_rfl) (by decide) (fun w S M hP hG _ => ?_)
            refine (rbeat hP hq0 (by omega) (by omega)).mono ?_
            rintro e1 w1 (⟨hne, _⟩ | ⟨_, a8, k8, c8, hR⟩)
            · exact absurd hz hne
            · refine ⟨_, _, _, hR, ?_⟩
              try simp only [List.cons_append, List.nil_append, List.append_nil]
              refine JR_run (id := 28) (rest := []) [.rd 4 [] 0 0, .rd 5 [] 0 0, .rd 6 [] 0 0, .wr 7 [] 0, .wr 8 [.o 2 none, .o 2 none, .o 2 none, .o 2 none, .o 2 none, .o 2 none, .o 2 none, .o 2 none, .o 2 none] 0, .rd 9 [] 0 0] [3, 8, 10, 15, 16, 17, 22, 23, 24, 25, 105] (E1 := fun nu4 => [(3, .val (.slice (some (⟨b1, off1, none⟩)) l.length c)), (8, .val (.bool false)), (10, .val (.pointer (some (⟨b, 0, none⟩)))), (15, .val (.pointer (some (⟨nu1 0, 0, none⟩)))), (16, .val (.int .i64 i)), (17, .val (.pointer (some (⟨nu2 0, 0, none⟩)))), (22, .val (.pointer (some (⟨nu3 0, 0, none⟩)))), (23, .val (.nilIface)), (24, .val (.pointer (some (⟨nu4 0, 0, none⟩)))), (25, .val (.int .i64 0)), (105, .val (.string x.kind))]) (h1 := fun nu4 => [(nu2 0, .cells #[.string x.kind, .slice a1_0 ((List.map eI x.c.when).length) c1_0, .int .i64 x.c.place, .slice a1_1 ((List.map eOp x.c.ops).length) c1_1, .int .i64 x.n] 66 (0, 0)), (nu3 0, .cells #[.int .i64 fm, .int .i64 to, .int .i64 sh, .int .i64 (q + 1), .int .i64 x.n, .bool true, .slice u3 0 d3, .int .i64 0, .slice u4 0 d4] 37 (0, 0)), (nu4 0, .cells #[.int .i64 fm, .int .i64 to, .int .i64 sh, .int .i64 (q + 1), .int .i64 x.n, .bool true, .slice none 0 0, .int .i64 0, .slice none 0 0] 55 (0, 0))]) (p1 := fun nu4 => []) (W1 := []) (fun _ => by kernel_rfl) (fun _ => trivial) (fun nu4 => ?_)
              try simp only [List.cons_append, List.nil_append, List.append_nil]
              refine JR_end ?_
              try simp only [List.cons_append, List.nil_append, List.append_nil]
              refine J_seq ?_
              try simp only [List.cons_append, List.nil_append, List.append_nil]
              refine JR_begin mixed [(0, true), (1, true), (2, false), (3, true), (4, true), (5, true), (7, true), (6, false), (8, false), (9, true), (10, true)] [] (by kernel_rfl) (by kernel_rfl) ?_
              refine JR_run (id := 29) (rest := [(2, false), (3, true), (4, true), (5, true), (7, true), (6, false), (8, false), (9, true), (10, true)]) [.rd 0 [] 0 0, .rd 1 [] 0 0] [3, 8, 10, 15, 16, 17, 22, 23, 24, 25, 105, 160, 161] (E1 := fun _ => [(3, .val (.slice (some (⟨b1, off1, none⟩)) l.length c)), (8, .val (.bool false)), (10, .val (.pointer (some (⟨b, 0, none⟩)))), (15, .val (.pointer (some (⟨nu1 0, 0, none⟩)))), (16, .val (.int .i64 i)), (17, .val (.pointer (some (⟨nu2 0, 0, none⟩)))), (22, .val (.pointer (some (⟨nu3 0, 0, none⟩)))), (23, .val (.nilIface)), (24, .val (.pointer (some (⟨nu4 0, 0, none⟩)))), (25, .val (.int .i64 0)), (105, .val (.string x.kind)), (160, .val (.nilIface)), (161, .val (.int .i64 0))]) (h1 := fun _ => [(nu2 0, .cells #[.string x.kind, .slice a1_0 ((List.map eI x.c.when).length) c1_0, .int .i64 x.c.place, .slice a1_1 ((List.map eOp x.c.ops).length) c1_1, .int .i64 x.n] 66 (0, 0)), (nu3 0, .cells #[.int .i64 fm, .int .i64 to, .int .i64 sh, .int .i64 (q + 1), .int .i64 x.n, .bool true, .slice u3 0 d3, .int .i64 0, .slice u4 0 d4] 37 (0, 0)), (nu4 0, .cells #[.int .i64 fm, .int .i64 to, .int .i64 sh, .int .i64 (q + 1), .int .i64 x.n, .bool true, .slice none 0 0, .int .i64 0, .slice none 0 0] 55 (0, 0))]) (p1 := fun _ => []) (W1 := []) (fun _ => by kernel_rfl) (fun _ => trivial) (fun _ => ?_)
              refine JR_callp [] 19 #[.nilIface, .int .i64 0] (some 162) (by kernel_rfl) (fun w S hG => ?_)
              refine (codedErr (k := 0) (c := 0) (hG.at 0 rfl) hI (by decide) (.inl ⟨rfl, rfl⟩)).mono ?_
              rintro e8 w8 hR
              rw [show decide (((0 : Nat) : Int) = 0) = true by decide] at hR
              refine ⟨_, _, _, hR, ?_⟩
              try simp only [List.cons_append, List.nil_append, List.append_nil]
              refine JR_run (id := 29) (rest := [(6, false), (8, false), (9, true), (10, true)]) [.rd 3 [] 0 0, .rd 4 [] 0 0, .rd 5 [.o 1 none, .o 1 none, .o 1 none, .o 1 none, .o 1 none, .o 1 none, .o 1 none, .o 1 none, .o 1 none] 0 0, .rd 7 [.o 2 none, .o 2 none, .o 2 none, .o 2 none, .o 2 none, .o 2 none, .o 2 none, .o 2 none, .o 2 none] 0 0] [3, 8, 10, 15, 16, 17, 22, 23, 24, 25, 105, 164, 165, 167] (E1 := fun _ => [(3, .val (.slice (some (⟨b1, off1, none⟩)) l.length c)), (8, .val (.bool false)), (10, .val (.pointer (some (⟨b, 0, none⟩)))), (15, .val (.pointer (some (⟨nu1 0, 0, none⟩)))), (16, .val (.int .i64 i)), (17, .val (.pointer (some (⟨nu2 0, 0, none⟩)))), (22, .val (.pointer (some (⟨nu3 0, 0, none⟩)))), (23, .val (.nilIface)), (24, .val (.pointer (some (⟨nu4 0, 0, none⟩)))), (25, .val (.int .i64 0)), (105, .val (.string x.kind)), (164, .val (.bool false)), (165, .val (.agg #[.int .i64 fm, .int .i64 to, .int .i64 sh, .int .i64 (q + 1), .int .i64 x.n, .bool true, .slice u3 0 d3, .int .i64 0, .slice u4 0 d4])), (167, .val (.agg #[.int .i64 fm, .int .i64 to, .int .i64 sh, .int .i64 (q + 1), .int .i64 x.n, .bool true, .slice none 0 0, .int .i64 0, .slice none 0 0]))]) (h1 := fun _ => [(nu2 0, .cells #[.string x.kind, .slice a1_0 ((List.map eI x.c.when).length) c1_0, .int .i64 x.c.place, .slice a1_1 ((List.map eOp x.c.ops).length) c1_1, .int .i64 x.n] 66 (0, 0)), (nu3 0, .cells #[.int .i64 fm, .int .i64 to, .int .i64 sh, .int .i64 (q + 1), .int .i64 x.n, .bool true, .slice u3 0 d3, .int .i64 0, .slice u4 0 d4] 37 (0, 0)), (nu4 0, .cells #[.int .i64 fm, .int .i64 to, .int .i64 sh, .int .i64 (q + 1), .int .i64 x.n, .bool true, .slice none 0 0, .int .i64 0, .slice none 0 0] 55 (0, 0))]) (p1 := fun _ => []) (W1 := []) (fun _ => by kernel_rfl) (fun _ => trivial) (fun _ => ?_)
              try simp only [List.cons_append, List.nil_append, List.append_nil]

              refine JR_callp [] 29 #[.agg #[.int .i64 fm, .int .i64 to, .int .i64 sh, .int .i64 (q + 1), .int .i64 x.n, .bool true, .slice u3 0 d3, .int .i64 0, .slice u4 0 d4]] (some 166) (by kernel_rfl) (fun w S hG => ?_)
              refine (backWire (m := (⟨fm, to, sh, q + 1, x.n, true, ⟨[], 0, []⟩⟩ : MsgT)) rfl rfl (w0 := w) (S := S)).mono ?_
              rintro e9 w9 hR
              refine ⟨_, _, _, hR, ?_⟩
              try simp only [List.cons_append, List.nil_append, List.append_nil]
              refine JR_callp [] 28 #[.agg #[.int .i64 fm, .int .i64 to, .int .i64 sh, .int .i64 (q + 1), .int .i64 x.n, .bool true, .slice u3 0 d3, .int .i64 0, .slice u4 0 d4], .agg #[.int .i64 fm, .int .i64 to, .int .i64 sh, .int .i64 (q + 1), .int .i64 x.n, .bool true, .slice none 0 0, .int .i64 0, .slice none 0 0]] (some 168) (by kernel_rfl) (fun w S hG => ?_)
              refine (sameMessage_eq (w0 := w) (S := S) (m := (⟨fm, to, sh, q + 1, x.n, true, ⟨[], 0, []⟩⟩ : MsgT)) (hG.at 4 rfl) (hG.at 5 rfl) .nil .nil (by simp) (by simp) (by simp)).mono ?_
              rintro e9 w9 hR
              refine ⟨_, _, _, hR, ?_⟩

              try simp only [List.cons_append, List.nil_append, List.append_nil]
              refine JR_run (id := 29) (rest := []) [.rd 9 [] 0 0, .rd 10 [] 0 0] [3, 8, 10, 15, 16, 17, 22, 23, 24, 25, 105, 170] (E1 := fun _ => [(3, .val (.slice (some (⟨b1, off1, none⟩)) l.length c)), (8, .val (.bool false)), (10, .val (.pointer (some (⟨b, 0, none⟩)))), (15, .val (.pointer (some (⟨nu1 0, 0, none⟩)))), (16, .val (.int .i64 i)), (17, .val (.pointer (some (⟨nu2 0, 0, none⟩)))), (22, .val (.pointer (some (⟨nu3 0, 0, none⟩)))), (23, .val (.nilIface)), (24, .val (.pointer (some (⟨nu4 0, 0, none⟩)))), (25, .val (.int .i64 0)), (105, .val (.string x.kind)), (170, .val (.bool false))]) (h1 := fun _ => [(nu2 0, .cells #[.string x.kind, .slice a1_0 ((List.map eI x.c.when).length) c1_0, .int .i64 x.c.place, .slice a1_1 ((List.map eOp x.c.ops).length) c1_1, .int .i64 x.n] 66 (0, 0)), (nu3 0, .cells #[.int .i64 fm, .int .i64 to, .int .i64 sh, .int .i64 (q + 1), .int .i64 x.n, .bool true, .slice u3 0 d3, .int .i64 0, .slice u4 0 d4] 37 (0, 0)), (nu4 0, .cells #[.int .i64 fm, .int .i64 to, .int .i64 sh, .int .i64 (q + 1), .int .i64 x.n, .bool true, .slice none 0 0, .int .i64 0, .slice none 0 0] 55 (0, 0))]) (p1 := fun _ => []) (W1 := []) (fun _ => by kernel_rfl) (fun _ => trivial) (fun _ => ?_)
              try simp only [List.cons_append, List.nil_append, List.append_nil]
              refine JR_end ?_
              try simp only [List.cons_append, List.nil_append, List.append_nil]
              refine J_cond_f (by kernel_rfl) (by kernel_rfl) ?_
              try simp only [List.cons_append, List.nil_append, List.append_nil]
              refine J_skip ?_
              try simp only [List.cons_append, List.nil_append, List.append_nil]
              refine J_eb ?_
              try simp only [List.cons_append, List.nil_append, List.append_nil]
              refine J_seq ?_
              try simp only [List.cons_append, List.nil_append, List.append_nil]
              refine J_show 2 rfl ?_
              refine J_norm (C' := [cObj b (.cells #[.int .i64 fm, .int .i64 to, .int .i64 sh, .int .i64 (q + 1), .int .i64 x.n, .slice a7 k7 c7] 86 (0, 0)), cAcc (.slice a7 k7 c7) 37 9 (List.map eMsg (L ++ [MsgT.mk fm to sh (q + 1) x.n true (ComT.mk [] 0 [])])), cAcc (.slice a8 k8 c8) 55 9 (List.map eMsg (L ++ [MsgT.mk fm to sh (q + 1) x.n true (ComT.mk [] 0 [])]))]) (G' := [(.nilIface, (dC er eb)), (.slice (some (⟨b1, off1, none⟩)) l.length c, (D.sl 5 (List.map eAct l))), (.slice (a1_0, c1_0).fst ((List.map eI x.c.when).length) c1_0, (D.sl 1 (List.map eI x.c.when))), (.slice (a1_1, c1_1).fst ((List.map eOp x.c.ops).length) c1_1, (D.sl 7 (List.map eOp x.c.ops))), (.slice u3 0 d3, (dInts [])), (.slice u4 0 d4, (D.sl 7 (List.map eOp [])))]) (by kernel_rfl) (by kernel_rfl) ?_
              refine JR_begin mixed [(0, true), (3, true), (4, true), (5, true), (6, true), (1, false), (2, false), (7, false), (8, true)] [(1, []), (7, [])] (by kernel_rfl) (by kernel_rfl) ?_
              refine JR_run (id := 31) (rest := [(1, false), (2, false), (7, false), (8, true)]) [.rd 0 [] 0 0, .rd 3 [] 0 0, .rd 4 [] 0 0, .rd 5 [] 0 0, .rd 6 [.o 3 none] 0 0] [3, 8, 10, 15, 16, 17, 22, 23, 24, 25, 105, 171, 177] (E1 := fun _ => [(3, .val (.slice (some (⟨b1, off1, none⟩)) l.length c)), (8, .val (.bool false)), (10, .val (.pointer (some (⟨b, 0, none⟩)))), (15, .val (.pointer (some (⟨nu1 0, 0, none⟩)))), (16, .val (.int .i64 i)), (17, .val (.pointer (some (⟨nu2 0, 0, none⟩)))), (22, .val (.pointer (some (⟨nu3 0, 0, none⟩)))), (23, .val (.nilIface)), (24, .val (.pointer (some (⟨nu4 0, 0, none⟩)))), (25, .val (.int .i64 0)), (105, .val (.string x.kind)), (171, .val (.pointer (some (⟨b, 0, none⟩)))), (177, .val (.slice a8 k8 c8))]) (h1 := fun _ => [(nu2 0, .cells #[.string x.kind, .slice a1_0 ((List.map eI x.c.when).length) c1_0, .int .i64 x.c.place, .slice a1_1 ((List.map eOp x.c.ops).length) c1_1, .int .i64 x.n] 66 (0, 0)), (nu3 0, .cells #[.int .i64 fm, .int .i64 to, .int .i64 sh, .int .i64 (q + 1), .int .i64 x.n, .bool true, .slice u3 0 d3, .int .i64 0, .slice u4 0 d4] 37 (0, 0)), (nu4 0, .cells #[.int .i64 fm, .int .i64 to, .int .i64 sh, .int .i64 (q + 1), .int .i64 x.n, .bool true, .slice none 0 0, .int .i64 0, .slice none 0 0] 55 (0, 0)), (nu1 0, .cells #[.int .i64 fm, .int .i64 to, .int .i64 sh, .int .i64 (q + 1), .int .i64 x.n, .slice a8 k8 c8] 64 (0, 0))]) (p1 := fun _ => []) (W1 := [(1, []), (7, [])]) (fun _ => by kernel_rfl) (fun _ => trivial) (fun _ => ?_)
              refine JR_call [] [0, 1] 14 #[.pointer (some (⟨b, 0, none⟩))] (some 172) (by kernel_rfl) (by kernel_rfl) (by decide) (fun w S M hP hG _ => ?_)
              refine (sagain hP (by rw [List.length_append, List.length_singleton]; omega) (fun y hy => by rcases List.mem_append.1 hy with hy | hy; exact hfit y hy; rw [List.mem_singleton] at hy; subst hy; exact ⟨by simp, by simp, by simp⟩)).mono ?_
              rintro e9 w9 ⟨a9, c9, hR⟩
              refine ⟨_, _, _, hR, ?_⟩
              try simp only [List.cons_append, List.nil_append, List.append_nil]
              refine JR_callp [] 21 #[.slice a9 ((L ++ [MsgT.mk fm to sh (q + 1) x.n true (ComT.mk [] 0 [])]).length) c9] (some 173) (by kernel_rfl) (fun w S hG => ?_)
              refine (backWires (hG.at 6 rfl) (by rw [List.length_append, List.length_singleton]; omega)).mono ?_
              rintro e9 w9 ⟨a10, n10, c10, hR⟩
              refine ⟨_, _, _, hR, ?_⟩
              try simp only [List.cons_append, List.nil_append, List.append_nil]
              refine JR_call [] [0] 20 #[.slice a10 n10 c10, .slice a8 k8 c8] (some 178) (by kernel_rfl) (by kernel_rfl) (by decide) (fun w S M hP hG _ => ?_)
              refine (lendAcc hP hG fun S' hG' => sameMessages_eq (hG'.at 7 rfl) (hG'.at 8 rfl) (by rw [List.length_append, List.length_singleton]; omega) (fun y hy => by rcases List.mem_append.1 hy with hy | hy; exact hfit y hy; rw [List.mem_singleton] at hy; subst hy; exact ⟨by simp, by simp, by simp⟩)).mono ?_
              rintro e9 w9 hR
              refine ⟨_, _, _, hR, ?_⟩
              try simp only [List.cons_append, List.nil_append, List.append_nil]
              refine JR_run (id := 31) (rest := []) [.rd 8 [] 0 0] [3, 8, 10, 15, 16, 17, 22, 23, 24, 25, 105, 179] (E1 := fun _ => [(3, .val (.slice (some (⟨b1, off1, none⟩)) l.length c)), (8, .val (.bool false)), (10, .val (.pointer (some (⟨b, 0, none⟩)))), (15, .val (.pointer (some (⟨nu1 0, 0, none⟩)))), (16, .val (.int .i64 i)), (17, .val (.pointer (some (⟨nu2 0, 0, none⟩)))), (22, .val (.pointer (some (⟨nu3 0, 0, none⟩)))), (23, .val (.nilIface)), (24, .val (.pointer (some (⟨nu4 0, 0, none⟩)))), (25, .val (.int .i64 0)), (105, .val (.string x.kind)), (179, .val (.bool false))]) (h1 := fun _ => [(nu2 0, .cells #[.string x.kind, .slice a1_0 ((List.map eI x.c.when).length) c1_0, .int .i64 x.c.place, .slice a1_1 ((List.map eOp x.c.ops).length) c1_1, .int .i64 x.n] 66 (0, 0)), (nu3 0, .cells #[.int .i64 fm, .int .i64 to, .int .i64 sh, .int .i64 (q + 1), .int .i64 x.n, .bool true, .slice u3 0 d3, .int .i64 0, .slice u4 0 d4] 37 (0, 0)), (nu4 0, .cells #[.int .i64 fm, .int .i64 to, .int .i64 sh, .int .i64 (q + 1), .int .i64 x.n, .bool true, .slice none 0 0, .int .i64 0, .slice none 0 0] 55 (0, 0)), (nu1 0, .cells #[.int .i64 fm, .int .i64 to, .int .i64 sh, .int .i64 (q + 1), .int .i64 x.n, .slice a8 k8 c8] 64 (0, 0))]) (p1 := fun _ => []) (W1 := []) (fun _ => by kernel_rfl) (fun _ => trivial) (fun _ => ?_)
              try simp only [List.cons_append, List.nil_append, List.append_nil]
              refine JR_end ?_
              try simp only [List.cons_append, List.nil_append, List.append_nil]
              refine J_cond_f (by kernel_rfl) (by kernel_rfl) ?_
              try simp only [List.cons_append, List.nil_append, List.append_nil]
              refine J_skip ?_
              try simp only [List.cons_append, List.nil_append, List.append_nil]
              refine J_eb ?_
              try simp only [List.cons_append, List.nil_append, List.append_nil]
              refine J_reg mixed [.rd 0 [] 0 0, .rd 1 [] 0 1, .rd 2 [] 0 0] [] [3, 8, 10, 15, 16, 17, 22, 23, 24, 25, 105] (E1 := fun _ => [(3, .val (.slice (some (⟨b1, off1, none⟩)) l.length c)), (8, .val (.bool false)), (10, .val (.pointer (some (⟨b, 0, none⟩)))), (15, .val (.pointer (some (⟨nu1 0, 0, none⟩)))), (16, .val (.int .i64 (i + 1))), (17, .val (.pointer (some (⟨nu2 0, 0, none⟩)))), (22, .val (.pointer (some (⟨nu3 0, 0, none⟩)))), (23, .val (.nilIface)), (24, .val (.pointer (some (⟨nu4 0, 0, none⟩)))), (25, .val (.int .i64 0)), (105, .val (.string x.kind))]) (h1 := fun _ => [(nu2 0, .cells #[.string x.kind, .slice a1_0 ((List.map eI x.c.when).length) c1_0, .int .i64 x.c.place, .slice a1_1 ((List.map eOp x.c.ops).length) c1_1, .int .i64 x.n] 66 (0, 0)), (nu3 0, .cells #[.int .i64 fm, .int .i64 to, .int .i64 sh, .int .i64 (q + 1), .int .i64 x.n, .bool true, .slice u3 0 d3, .int .i64 0, .slice u4 0 d4] 37 (0, 0)), (nu4 0, .cells #[.int .i64 fm, .int .i64 to, .int .i64 sh, .int .i64 (q + 1), .int .i64 x.n, .bool true, .slice none 0 0, .int .i64 0, .slice none 0 0] 55 (0, 0)), (nu1 0, .cells #[.int .i64 fm, .int .i64 to, .int .i64 sh, .int .i64 (q + 1), .int .i64 x.n, .slice a8 k8 c8] 64 (0, 0))]) (p1 := fun _ => [IntKind.i64.wrap (i + (1 : Int)) = i + (1 : Int)]) (W1 := []) (by kernel_rfl) (fun _ => by kernel_rfl) (fun _ => ⟨wrap_i64 (by omega) (by omega), trivial⟩) (fun _ => ?_)
              try simp only [List.cons_append, List.nil_append, List.append_nil]
              refine J_hide 3 rfl ?_
              refine J_norm (C' := [cObj b (.cells #[.int .i64 fm, .int .i64 to, .int .i64 sh, .int .i64 (q + 1), .int .i64 x.n, .slice a7 k7 c7] 86 (0, 0)), cAcc (.slice a7 k7 c7) 37 9 (List.map eMsg (L ++ [MsgT.mk fm to sh (q + 1) x.n true (ComT.mk [] 0 [])])), cAcc (.slice a8 k8 c8) 55 9 (List.map eMsg (L ++ [MsgT.mk fm to sh (q + 1) x.n true (ComT.mk [] 0 [])])), cObj (nu1 0) (.cells #[.int .i64 fm, .int .i64 to, .int .i64 sh, .int .i64 (q + 1), .int .i64 x.n, .slice a8 k8 c8] 64 (0, 0))]) (G' := [(.nilIface, (dC er eb)), (.slice (some (⟨b1, off1, none⟩)) l.length c, (D.sl 5 (List.map eAct l))), (.slice a1_0 ((List.map eI x.c.when).length) c1_0, (D.sl 1 (List.map eI x.c.when))), (.slice a1_1 ((List.map eOp x.c.ops).length) c1_1, (D.sl 7 (List.map eOp x.c.ops))), (.slice u3 0 d3, (dInts [])), (.slice u4 0 d4, (D.sl 7 (List.map eOp []))), (.slice a9 ((L ++ [MsgT.mk fm to sh (q + 1) x.n true (ComT.mk [] 0 [])]).length) c9, (D.sl 9 (List.map eMsg (L ++ [MsgT.mk fm to sh (q + 1) x.n true (ComT.mk [] 0 [])])))), (.slice a10 n10 c10, (D.sl 9 (List.map eMsg (L ++ [MsgT.mk fm to sh (q + 1) x.n true (ComT.mk [] 0 [])]))))]) (by kernel_rfl) (by kernel_rfl) ?_
              refine J_backx ⟨i + 1, q + 1, x.n, L ++ [(⟨fm, to, sh, q + 1, x.n, true, ⟨[], 0, []⟩⟩ : MsgT)], a7, k7, c7, a8, k8, c8⟩ [3, 8, 10, 15, 16] [] [0, 1, 3, 2] [0, 1] ?_ ?_ (by kernel_rfl) rfl rfl rfl
              · exact ⟨by simp only; omega, by simp only; omega, by simp only; omega, by simp only; omega, by simp only; rw [List.length_append, List.length_singleton]; omega, fun y hy => by rcases List.mem_append.1 hy with hy | hy; exact hfit y hy; rw [List.mem_singleton] at hy; subst hy; exact ⟨by simp, by simp, by simp⟩⟩
              · simp only
                omega

        · refine J_seq ?_
          refine JR_begin mixed [(0, true), (1, true), (2, true), (4, true), (5, true), (6, true), (3, false), (7, false), (8, false), (9, true)] [(3, []), (7, [])] (by kernel_rfl) (by kernel_rfl) ?_
          refine JR_run (id := 19) (rest := [(3, false), (7, false), (8, false), (9, true)]) [.rd 0 [] 0 0, .rd 1 [] 0 0, .rd 2 [.o 0 none] 0 0, .rd 4 [] 0 0, .rd 5 [] 0 0, .rd 6 [.o 0 none] 0 0] [3, 8, 10, 15, 16, 17, 105, 106, 108, 110, 112] (E1 := fun _ => [(3, .val (.slice (some (⟨b1, off1, none⟩)) l.length c)), (8, .val (.bool false)), (10, .val (.pointer (some (⟨b, 0, none⟩)))), (15, .val (.pointer (some (⟨nu1 0, 0, none⟩)))), (16, .val (.int .i64 i)), (17, .val (.pointer (some (⟨nu2 0, 0, none⟩)))), (105, .val (.string x.kind)), (106, .val (.pointer (some (⟨b, 0, none⟩)))), (108, .val (.int .i64 x.n)), (110, .val (.pointer (some (⟨nu1 0, 0, none⟩)))), (112, .val (.int .i64 x.n))]) (h1 := fun _ => [(nu2 0, .cells #[.string x.kind, .slice a1_0 ((List.map eI x.c.when).length) c1_0, .int .i64 x.c.place, .slice a1_1 ((List.map eOp x.c.ops).length) c1_1, .int .i64 x.n] 66 (0, 0))]) (p1 := fun _ => []) (W1 := [(3, []), (7, [])]) (fun _ => by kernel_rfl) (fun _ => trivial) (fun _ => ?_)
          refine JR_call [] [0, 1] 12 #[.pointer (some (⟨b, 0, none⟩)), .int .i64 x.n] (some 109) (by kernel_rfl) (by kernel_rfl) (by decide) (fun w S M hP hG _ => ?_)
          refine (sacked (hG.at 0 rfl) hP (by omega)).mono ?_
          rintro e1 w1 ⟨a7, k7, c7, v, hR, hv⟩
          refine ⟨_, _, _, hR, ?_⟩
          try simp only [List.cons_append, List.nil_append, List.append_nil]
          refine JR_call [] [0, 1] 31 #[.pointer (some (⟨nu1 0, 0, none⟩)), .int .i64 x.n] (some 113) (by kernel_rfl) (by kernel_rfl) (by decide) (fun w S M hP hG _ => ?_)
          refine (racked hP (by omega)).mono ?_
          rintro e1 w1 ⟨a8, k8, c8, hR⟩
          refine ⟨_, _, _, hR, ?_⟩
          try simp only [List.cons_append, List.nil_append, List.append_nil]
          refine JR_callp [] 19 #[v, .int .i64 ((↑(ackErr q x.n) : Int))] (some 114) (by kernel_rfl) (fun w S hG => ?_)
          refine (codedErr (k := ackErr q x.n) (c := (ackErr q x.n : Nat)) (hG.at 0 rfl) hI (by unfold ackErr; split <;> omega) hv).mono ?_
          rintro e8 w8 hR
          rw [decide_eq_true rfl] at hR
          refine ⟨_, _, _, hR, ?_⟩

          try simp only [List.cons_append, List.nil_append, List.append_nil]
          refine JR_run (id := 19) (rest := []) [.rd 9 [] 0 0] [3, 8, 10, 15, 16, 17, 105, 115] (E1 := fun _ => [(3, .val (.slice (some (⟨b1, off1, none⟩)) l.length c)), (8, .val (.bool false)), (10, .val (.pointer (some (⟨b, 0, none⟩)))), (15, .val (.pointer (some (⟨nu1 0, 0, none⟩)))), (16, .val (.int .i64 i)), (17, .val (.pointer (some (⟨nu2 0, 0, none⟩)))), (105, .val (.string x.kind)), (115, .val (.bool false))]) (h1 := fun _ => [(nu2 0, .cells #[.string x.kind, .slice a1_0 ((List.map eI x.c.when).length) c1_0, .int .i64 x.c.place, .slice a1_1 ((List.map eOp x.c.ops).length) c1_1, .int .i64 x.n] 66 (0, 0))]) (p1 := fun _ => []) (W1 := []) (fun _ => by kernel_rfl) (fun _ => trivial) (fun _ => ?_)
          try simp only [List.cons_append, List.nil_append, List.append_nil]
          refine JR_end ?_
          try simp only [List.cons_append, List.nil_append, List.append_nil]
          refine J_cond_f (by kernel_rfl) (by kernel_rfl) ?_
          try simp only [List.cons_append, List.nil_append, List.append_nil]
          refine J_skip ?_
          try simp only [List.cons_append, List.nil_append, List.append_nil]
          refine J_eb ?_
          try simp only [List.cons_append, List.nil_append, List.append_nil]
          refine J_seq ?_
          try simp only [List.cons_append, List.nil_append, List.append_nil]
          refine J_show 2 rfl ?_
          refine J_norm (C' := [cObj b (.cells #[.int .i64 fm, .int .i64 to, .int .i64 sh, .int .i64 q, .int .i64 t, .slice a7 k7 c7] 86 (0, 0)), cAcc (.slice a7 k7 c7) 37 9 (List.map eMsg (ackL q x.n L)), cAcc (.slice a8 k8 c8) 55 9 (List.map eMsg (ackL q x.n L))]) (G' := [(.nilIface, (dC er eb)), (.slice (some (⟨b1, off1, none⟩)) l.length c, (D.sl 5 (List.map eAct l))), (.slice (a1_0, c1_0).fst ((List.map eI x.c.when).length) c1_0, (D.sl 1 (List.map eI x.c.when))), (.slice (a1_1, c1_1).fst ((List.map eOp x.c.ops).length) c1_1, (D.sl 7 (List.map eOp x.c.ops)))]) (by kernel_rfl) (by kernel_rfl) ?_
          refine JR_begin mixed [(0, true), (3, true), (4, true), (5, true), (6, true), (1, false), (2, false), (7, false), (8, true)] [(1, []), (7, [])] (by kernel_rfl) (by kernel_rfl) ?_
          refine JR_run (id := 31) (rest := [(1, false), (2, false), (7, false), (8, true)]) [.rd 0 [] 0 0, .rd 3 [] 0 0, .rd 4 [] 0 0, .rd 5 [] 0 0, .rd 6 [.o 1 none] 0 0] [3, 8, 10, 15, 16, 17, 105, 171, 177] (E1 := fun _ => [(3, .val (.slice (some (⟨b1, off1, none⟩)) l.length c)), (8, .val (.bool false)), (10, .val (.pointer (some (⟨b, 0, none⟩)))), (15, .val (.pointer (some (⟨nu1 0, 0, none⟩)))), (16, .val (.int .i64 i)), (17, .val (.pointer (some (⟨nu2 0, 0, none⟩)))), (105, .val (.string x.kind)), (171, .val (.pointer (some (⟨b, 0, none⟩)))), (177, .val (.slice a8 k8 c8))]) (h1 := fun _ => [(nu2 0, .cells #[.string x.kind, .slice a1_0 ((List.map eI x.c.when).length) c1_0, .int .i64 x.c.place, .slice a1_1 ((List.map eOp x.c.ops).length) c1_1, .int .i64 x.n] 66 (0, 0)), (nu1 0, .cells #[.int .i64 fm, .int .i64 to, .int .i64 sh, .int .i64 q, .int .i64 t, .slice a8 k8 c8] 64 (0, 0))]) (p1 := fun _ => []) (W1 := [(1, []), (7, [])]) (fun _ => by kernel_rfl) (fun _ => trivial) (fun _ => ?_)
          refine JR_call [] [0, 1] 14 #[.pointer (some (⟨b, 0, none⟩))] (some 172) (by kernel_rfl) (by kernel_rfl) (by decide) (fun w S M hP hG _ => ?_)
          refine (sagain hP (by have := ackL_len q x.n L; omega) (fun y hy => hfit y (ackL_sub hy))).mono ?_
          rintro e9 w9 ⟨a9, c9, hR⟩
          refine ⟨_, _, _, hR, ?_⟩
          try simp only [List.cons_append, List.nil_append, List.append_nil]
          refine JR_callp [] 21 #[.slice a9 ((ackL q x.n L).length) c9] (some 173) (by kernel_rfl) (fun w S hG => ?_)
          refine (backWires (hG.at 4 rfl) (by have := ackL_len q x.n L; omega)).mono ?_
          rintro e9 w9 ⟨a10, n10, c10, hR⟩
          refine ⟨_, _, _, hR, ?_⟩
          try simp only [List.cons_append, List.nil_append, List.append_nil]
          refine JR_call [] [0] 20 #[.slice a10 n10 c10, .slice a8 k8 c8] (some 178) (by kernel_rfl) (by kernel_rfl) (by decide) (fun w S M hP hG _ => ?_)
          refine (lendAcc hP hG fun S' hG' => sameMessages_eq (hG'.at 5 rfl) (hG'.at 6 rfl) (by have := ackL_len q x.n L; omega) (fun y hy => hfit y (ackL_sub hy))).mono ?_
          rintro e9 w9 hR
          refine ⟨_, _, _, hR, ?_⟩
          try simp only [List.cons_append, List.nil_append, List.append_nil]
          refine JR_run (id := 31) (rest := []) [.rd 8 [] 0 0] [3, 8, 10, 15, 16, 17, 105, 179] (E1 := fun _ => [(3, .val (.slice (some (⟨b1, off1, none⟩)) l.length c)), (8, .val (.bool false)), (10, .val (.pointer (some (⟨b, 0, none⟩)))), (15, .val (.pointer (some (⟨nu1 0, 0, none⟩)))), (16, .val (.int .i64 i)), (17, .val (.pointer (some (⟨nu2 0, 0, none⟩)))), (105, .val (.string x.kind)), (179, .val (.bool false))]) (h1 := fun _ => [(nu2 0, .cells #[.string x.kind, .slice a1_0 ((List.map eI x.c.when).length) c1_0, .int .i64 x.c.place, .slice a1_1 ((List.map eOp x.c.ops).length) c1_1, .int .i64 x.n] 66 (0, 0)), (nu1 0, .cells #[.int .i64 fm, .int .i64 to, .int .i64 sh, .int .i64 q, .int .i64 t, .slice a8 k8 c8] 64 (0, 0))]) (p1 := fun _ => []) (W1 := []) (fun _ => by kernel_rfl) (fun _ => trivial) (fun _ => ?_)
          try simp only [List.cons_append, List.nil_append, List.append_nil]
          refine JR_end ?_
          try simp only [List.cons_append, List.nil_append, List.append_nil]
          refine J_cond_f (by kernel_rfl) (by kernel_rfl) ?_
          try simp only [List.cons_append, List.nil_append, List.append_nil]
          refine J_skip ?_
          try simp only [List.cons_append, List.nil_append, List.append_nil]
          refine J_eb ?_
          try simp only [List.cons_append, List.nil_append, List.append_nil]
          refine J_reg mixed [.rd 0 [] 0 0, .rd 1 [] 0 1, .rd 2 [] 0 0] [] [3, 8, 10, 15, 16, 17, 105] (E1 := fun _ => [(3, .val (.slice (some (⟨b1, off1, none⟩)) l.length c)), (8, .val (.bool false)), (10, .val (.pointer (some (⟨b, 0, none⟩)))), (15, .val (.pointer (some (⟨nu1 0, 0, none⟩)))), (16, .val (.int .i64 (i + 1))), (17, .val (.pointer (some (⟨nu2 0, 0, none⟩)))), (105, .val (.string x.kind))]) (h1 := fun _ => [(nu2 0, .cells #[.string x.kind, .slice a1_0 ((List.map eI x.c.when).length) c1_0, .int .i64 x.c.place, .slice a1_1 ((List.map eOp x.c.ops).length) c1_1, .int .i64 x.n] 66 (0, 0)), (nu1 0, .cells #[.int .i64 fm, .int .i64 to, .int .i64 sh, .int .i64 q, .int .i64 t, .slice a8 k8 c8] 64 (0, 0))]) (p1 := fun _ => [IntKind.i64.wrap (i + (1 : Int)) = i + (1 : Int)]) (W1 := []) (by kernel_rfl) (fun _ => by kernel_rfl) (fun _ => ⟨wrap_i64 (by omega) (by omega), trivial⟩) (fun _ => ?_)
          try simp only [List.cons_append, List.nil_append, List.append_nil]
          refine J_hide 1 rfl ?_
          refine J_norm (C' := [cObj b (.cells #[.int .i64 fm, .int .i64 to, .int .i64 sh, .int .i64 q, .int .i64 t, .slice a7 k7 c7] 86 (0, 0)), cAcc (.slice a7 k7 c7) 37 9 (List.map eMsg (ackL q x.n L)), cAcc (.slice a8 k8 c8) 55 9 (List.map eMsg (ackL q x.n L)), cObj (nu1 0) (.cells #[.int .i64 fm, .int .i64 to, .int .i64 sh, .int .i64 q, .int .i64 t, .slice a8 k8 c8] 64 (0, 0))]) (G' := [(.nilIface, (dC er eb)), (.slice (some (⟨b1, off1, none⟩)) l.length c, (D.sl 5 (List.map eAct l))), (.slice a1_0 ((List.map eI x.c.when).length) c1_0, (D.sl 1 (List.map eI x.c.when))), (.slice a1_1 ((List.map eOp x.c.ops).length) c1_1, (D.sl 7 (List.map eOp x.c.ops))), (.slice a9 ((ackL q x.n L).length) c9, (D.sl 9 (List.map eMsg (ackL q x.n L)))), (.slice a10 n10 c10, (D.sl 9 (List.map eMsg (ackL q x.n L))))]) (by kernel_rfl) (by kernel_rfl) ?_
          refine J_backx ⟨i + 1, q, t, ackL q x.n L, a7, k7, c7, a8, k8, c8⟩ [3, 8, 10, 15, 16] [] [0, 1, 3, 2] [0, 1] ?_ ?_ (by kernel_rfl) rfl rfl rfl
          · exact ⟨by simp only; omega, by simp only; omega, by simp only; omega, by simp only; omega, by simp only; have := ackL_len q x.n L; omega, fun y hy => hfit y (ackL_sub hy)⟩
          · simp only
            omega
    · refine J_exit rfl ?_
      refine J_seq ?_
      refine J_reg mixed [.rd 0 [] 0 0] [] [8] (E1 := fun _ => [(8, .val (.bool true))]) (h1 := fun _ => []) (p1 := fun _ => []) (W1 := []) (by kernel_rfl) (fun _ => by kernel_rfl) (fun _ => trivial) (fun _ => ?_)
      refine J_return [[]] (.bool true) (by kernel_rfl) (fun a w s => ?_)
      exact s.ret (by simp) [] [] rfl rfl
  · refine J_skip ?_
    refine J_seq ?_
    refine JR_begin mixed [(0, true), (1, true), (2, true), (3, false), (4, true), (5, true), (6, true), (7, true), (8, true)] [] (by kernel_rfl) (by kernel_rfl) ?_
    refine JR_run (id := 4) (rest := [(3, false), (4, true), (5, true), (6, true), (7, true), (8, true)]) [.rd 0 [] 0 0, .rd 1 [] 0 0, .rd 2 [] 0 0] [0, 1, 2, 3, 8, 36, 37, 38] (E1 := fun _ => [(0, .val (.int .i64 fm)), (1, .val (.int .i64 to)), (2, .val (.int .i64 sh)), (3, .val (.slice a l.length c)), (8, .val (.bool false)), (36, .val (.int .i64 fm)), (37, .val (.int .i64 to)), (38, .val (.int .i64 sh))]) (h1 := fun _ => []) (p1 := fun _ => []) (W1 := []) (fun _ => by kernel_rfl) (fun _ => trivial) (fun _ => ?_)
    refine JR_callp [] 8 #[.int .i64 fm, .int .i64 to, .int .i64 sh] (some 39) (by kernel_rfl) (fun w S hG => ?_)
    refine (newSenderE (globs_of (hG.at 0 rfl)) hw).mono ?_
    rintro e1 w1 hR
    refine ⟨_, _, _, hR, ?_⟩
    try simp only [List.cons_append, List.nil_append, List.append_nil]
    refine JR_run (id := 4) (rest := []) [.rd 4 [] 0 0, .rd 5 [] 0 0, .rd 6 [] 0 0, .rd 7 [] 0 0, .rd 8 [] 0 0] [0, 1, 2, 3, 8, 10, 11] (E1 := fun _ => [(0, .val (.int .i64 fm)), (1, .val (.int .i64 to)), (2, .val (.int .i64 sh)), (3, .val (.slice a l.length c)), (8, .val (.bool false)), (10, .val (.pointer none)), (11, .val (.iface 168 (.pointer (some (er (wayErr fm to sh))))))]) (h1 := fun _ => []) (p1 := fun _ => []) (W1 := []) (fun _ => by kernel_rfl) (fun _ => trivial) (fun _ => ?_)
    refine JR_end ?_
    refine J_seq ?_
    refine JR_begin mixed [(0, true), (1, true), (2, true), (3, false), (4, true), (5, true), (6, true), (7, true), (8, true)] [] (by kernel_rfl) (by kernel_rfl) ?_
    refine JR_run (id := 5) (rest := [(3, false), (4, true), (5, true), (6, true), (7, true), (8, true)]) [.rd 0 [] 0 0, .rd 1 [] 0 0, .rd 2 [] 0 0] [0, 1, 2, 3, 8, 10, 11, 43, 44, 45] (E1 := fun _ => [(0, .val (.int .i64 fm)), (1, .val (.int .i64 to)), (2, .val (.int .i64 sh)), (3, .val (.slice a l.length c)), (8, .val (.bool false)), (10, .val (.pointer none)), (11, .val (.iface 168 (.pointer (some (er (wayErr fm to sh)))))), (43, .val (.int .i64 fm)), (44, .val (.int .i64 to)), (45, .val (.int .i64 sh))]) (h1 := fun _ => []) (p1 := fun _ => []) (W1 := []) (fun _ => by kernel_rfl) (fun _ => trivial) (fun _ => ?_)
    refine JR_callp [] 9 #[.int .i64 fm, .int .i64 to, .int .i64 sh] (some 46) (by kernel_rfl) (fun w S hG => ?_)
    refine (newReceiverE (globs_of (hG.at 0 rfl)) hw).mono ?_
    rintro e1 w1 hR
    refine ⟨_, _, _, hR, ?_⟩
    try simp only [List.cons_append, List.nil_append, List.append_nil]
    refine JR_run (id := 5) (rest := []) [.rd 4 [] 0 0, .rd 5 [] 0 0, .rd 6 [] 0 0, .rd 7 [] 0 0, .rd 8 [] 0 0] [0, 1, 2, 3, 8, 10, 11, 12, 13] (E1 := fun _ => [(0, .val (.int .i64 fm)), (1, .val (.int .i64 to)), (2, .val (.int .i64 sh)), (3, .val (.slice a l.length c)), (8, .val (.bool false)), (10, .val (.pointer none)), (11, .val (.iface 168 (.pointer (some (er (wayErr fm to sh)))))), (12, .val (.pointer none)), (13, .val (.iface 168 (.pointer (some (er (wayErr fm to sh))))))]) (h1 := fun _ => []) (p1 := fun _ => []) (W1 := []) (fun _ => by kernel_rfl) (fun _ => trivial) (fun _ => ?_)
    refine JR_end ?_
    refine J_seq ?_
    refine JR_begin mixed [(0, true), (1, true), (2, true), (3, false), (4, true)] [] (by kernel_rfl) (by kernel_rfl) ?_
    refine JR_run (id := 6) (rest := [(3, false), (4, true)]) [.rd 0 [] 0 0, .rd 1 [] 0 0, .rd 2 [] 0 0] [0, 1, 2, 3, 8, 10, 11, 12, 13, 49, 50, 51] (E1 := fun _ => [(0, .val (.int .i64 fm)), (1, .val (.int .i64 to)), (2, .val (.int .i64 sh)), (3, .val (.slice a l.length c)), (8, .val (.bool false)), (10, .val (.pointer none)), (11, .val (.iface 168 (.pointer (some (er (wayErr fm to sh)))))), (12, .val (.pointer none)), (13, .val (.iface 168 (.pointer (some (er (wayErr fm to sh)))))), (49, .val (.int .i64 fm)), (50, .val (.int .i64 to)), (51, .val (.int .i64 sh))]) (h1 := fun _ => []) (p1 := fun _ => []) (W1 := []) (fun _ => by kernel_rfl) (fun _ => trivial) (fun _ => ?_)
    refine JR_callp [] 16 #[.int .i64 fm, .int .i64 to, .int .i64 sh] (some 52) (by kernel_rfl) (fun w S hG => ?_)
    refine (wayError (w0 := w) (S := S)).mono ?_
    rintro e1 w1 hR
    refine ⟨_, _, _, hR, ?_⟩
    have hpos : ((wayErr fm to sh : Nat) : Int) > 0 := by omega
    have hwle : wayErr fm to sh ≤ 12 := by unfold wayErr; split <;> (try split) <;> omega
    try simp only [List.cons_append, List.nil_append, List.append_nil]
    refine JR_run (id := 6) (rest := []) [.rd 4 [] 0 0] [0, 1, 2, 3, 8, 10, 11, 12, 13, 14] (E1 := fun _ => [(0, .val (.int .i64 fm)), (1, .val (.int .i64 to)), (2, .val (.int .i64 sh)), (3, .val (.slice a l.length c)), (8, .val (.bool false)), (10, .val (.pointer none)), (11, .val (.iface 168 (.pointer (some (er (wayErr fm to sh)))))), (12, .val (.pointer none)), (13, .val (.iface 168 (.pointer (some (er (wayErr fm to sh)))))), (14, .val (.int .i64 ((↑(wayErr fm to sh) : Int))))]) (h1 := fun _ => []) (p1 := fun _ => []) (W1 := []) (fun _ => by kernel_rfl) (fun _ => trivial) (fun _ => ?_)
    refine JR_end ?_
    refine J_seq ?_
    refine J_seq ?_
    refine J_reg mixed [.rd 0 [] 0 0, .rd 1 [] 0 6] [] [0, 1, 2, 3, 8, 10, 11, 12, 13, 14, 54] (E1 := fun _ => [(0, .val (.int .i64 fm)), (1, .val (.int .i64 to)), (2, .val (.int .i64 sh)), (3, .val (.slice a l.length c)), (8, .val (.bool false)), (10, .val (.pointer none)), (11, .val (.iface 168 (.pointer (some (er (wayErr fm to sh)))))), (12, .val (.pointer none)), (13, .val (.iface 168 (.pointer (some (er (wayErr fm to sh)))))), (14, .val (.int .i64 ((↑(wayErr fm to sh) : Int)))), (54, .val (.bool true))]) (h1 := fun _ => []) (p1 := fun _ => [decide ((↑(wayErr fm to sh) : Int) > (0 : Int)) = true]) (W1 := []) (by kernel_rfl) (fun _ => by kernel_rfl) (fun _ => ⟨by simp; omega, trivial⟩) (fun _ => ?_)
    refine J_cond_t (by kernel_rfl) (by kernel_rfl) ?_
    refine J_seq ?_
    refine JR_begin mixed [(0, true), (1, true), (2, false), (3, true), (4, true), (5, true), (6, true), (7, true), (8, true), (9, true), (10, false), (11, true), (12, true), (13, true), (14, true), (15, true), (16, true)] [] (by kernel_rfl) (by kernel_rfl) ?_
    refine JR_run (id := 8) (rest := [(2, false), (3, true), (4, true), (5, true), (6, true), (7, true), (8, true), (9, true), (10, false), (11, true), (12, true), (13, true), (14, true), (15, true), (16, true)]) [.rd 0 [] 0 0, .rd 1 [] 0 0] [0, 1, 2, 3, 8, 10, 11, 12, 13, 14, 55, 56] (E1 := fun _ => [(0, .val (.int .i64 fm)), (1, .val (.int .i64 to)), (2, .val (.int .i64 sh)), (3, .val (.slice a l.length c)), (8, .val (.bool false)), (10, .val (.pointer none)), (11, .val (.iface 168 (.pointer (some (er (wayErr fm to sh)))))), (12, .val (.pointer none)), (13, .val (.iface 168 (.pointer (some (er (wayErr fm to sh)))))), (14, .val (.int .i64 ((↑(wayErr fm to sh) : Int)))), (55, .val (.iface 168 (.pointer (some (er (wayErr fm to sh)))))), (56, .val (.int .i64 ((↑(wayErr fm to sh) : Int))))]) (h1 := fun _ => []) (p1 := fun _ => []) (W1 := []) (fun _ => by kernel_rfl) (fun _ => trivial) (fun _ => ?_)
    refine JR_callp [] 19 #[.iface 168 (.pointer (some (er (wayErr fm to sh)))), .int .i64 ((↑(wayErr fm to sh) : Int))] (some 57) (by kernel_rfl) (fun w S hG => ?_)
    refine (codedErr (c := (wayErr fm to sh : Nat)) (hG.at 0 rfl) hI hwle (.inr ⟨hw, rfl⟩)).mono ?_
    rintro e1 w1 hR
    rw [decide_eq_true rfl] at hR
    refine ⟨_, _, _, hR, ?_⟩
    try simp only [List.cons_append, List.nil_append, List.append_nil]
    refine JR_run (id := 8) (rest := [(10, false), (11, true), (12, true), (13, true), (14, true), (15, true), (16, true)]) [.rd 3 [] 0 0, .rd 4 [] 0 0, .rd 5 [] 0 0, .rd 6 [] 0 0, .rd 7 [] 0 0, .rd 8 [] 0 0, .rd 9 [] 0 0] [0, 1, 2, 3, 8, 10, 11, 12, 13, 62, 63, 64] (E1 := fun _ => [(0, .val (.int .i64 fm)), (1, .val (.int .i64 to)), (2, .val (.int .i64 sh)), (3, .val (.slice a l.length c)), (8, .val (.bool false)), (10, .val (.pointer none)), (11, .val (.iface 168 (.pointer (some (er (wayErr fm to sh)))))), (12, .val (.pointer none)), (13, .val (.iface 168 (.pointer (some (er (wayErr fm to sh)))))), (62, .val (.bool true)), (63, .val (.iface 168 (.pointer (some (er (wayErr fm to sh)))))), (64, .val (.int .i64 ((↑(wayErr fm to sh) : Int))))]) (h1 := fun _ => []) (p1 := fun _ => []) (W1 := []) (fun _ => by kernel_rfl) (fun _ => trivial) (fun _ => ?_)
    refine JR_callp [] 19 #[.iface 168 (.pointer (some (er (wayErr fm to sh)))), .int .i64 ((↑(wayErr fm to sh) : Int))] (some 65) (by kernel_rfl) (fun w S hG => ?_)
    refine (codedErr (c := (wayErr fm to sh : Nat)) (hG.at 0 rfl) hI hwle (.inr ⟨hw, rfl⟩)).mono ?_
    rintro e1 w1 hR
    rw [decide_eq_true rfl] at hR
    refine ⟨_, _, _, hR, ?_⟩
    try simp only [List.cons_append, List.nil_append, List.append_nil]
    refine JR_run (id := 8) (rest := []) [.rd 11 [] 0 0, .rd 12 [] 0 0, .rd 13 [] 0 0, .rd 14 [] 0 0, .rd 15 [] 0 0, .rd 16 [] 0 0] [0, 1, 2, 3, 8, 10, 11, 12, 13] (E1 := fun _ => [(0, .val (.int .i64 fm)), (1, .val (.int .i64 to)), (2, .val (.int .i64 sh)), (3, .val (.slice a l.length c)), (8, .val (.bool true)), (10, .val (.pointer none)), (11, .val (.iface 168 (.pointer (some (er (wayErr fm to sh)))))), (12, .val (.pointer none)), (13, .val (.iface 168 (.pointer (some (er (wayErr fm to sh))))))]) (h1 := fun _ => []) (p1 := fun _ => []) (W1 := []) (fun _ => by kernel_rfl) (fun _ => trivial) (fun _ => ?_)
    refine JR_end ?_
    refine J_return [[]] (.bool true) (by kernel_rfl) (fun a w s => ?_)
    exact s.ret (by simp) [] [] rfl rfl
end Go.Proofs.YtgelnbgjabpdbaaDoor
