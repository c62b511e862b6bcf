/- Messages turned back; a receiver's number and time; the document's receiver hears. -/
import Derived.Test.YtgelnbgjabpdbaaDoorMsgs
namespace Go.Proofs.YtgelnbgjabpdbaaDoor
open Go Go.Sx

theorem backWires {w0 : World} {S : Nat → Prop} {a : Option Addr} {n c : Nat} {l : List MsgT} (ha : Rep w0 S (.slice a n c) (.sl 9 (l.map eMsg))) (hl : l.length ≤ 1000000) :
    Calls Tryd.prog 21 #[.slice a n c] w0 fun e w' => ∃ a' n' c', Ret [] w0 S w' e (.slice a' n' c') [] [(.slice a' n' c', .sl 9 (l.map eMsg))] := by
  have e1 := ha.slen
  rw [List.length_map] at e1
  subst e1
  refine ep21 (args := [.slice a l.length c]) (G := [(_, .sl 9 (l.map eMsg))]) (by kernel_rfl) (.cons ha (.nil _ _)) ?_
  refine J_seq ?_
  refine J_reg mixed [.rd 0 [] 0 0] [] [0, 2] (E1 := fun _ => [(0, .val (.slice a l.length c)), (2, .val (.slice none 0 0))]) (h1 := fun _ => []) (p1 := fun _ => []) (W1 := []) (by kernel_rfl) (fun _ => by kernel_rfl) (fun _ => trivial) (fun _ => ?_)
  refine J_seq ?_
  refine J_reg mixed [.rd 0 [] 0 0] [] [0, 2, 3] (E1 := fun _ => [(0, .val (.slice a l.length c)), (2, .val (.slice none 0 0)), (3, .val (.slice none 0 0))]) (h1 := fun _ => []) (p1 := fun _ => []) (W1 := []) (by kernel_rfl) (fun _ => by kernel_rfl) (fun _ => trivial) (fun _ => ?_)
  refine J_seq ?_
  refine J_seq ?_
  refine J_reg mixed [.rd 0 [] 0 0] [] [0, 2, 3, 4] (E1 := fun _ => [(0, .val (.slice a l.length c)), (2, .val (.slice none 0 0)), (3, .val (.slice none 0 0)), (4, .val (.int .i64 0))]) (h1 := fun _ => []) (p1 := fun _ => []) (W1 := []) (by kernel_rfl) (fun _ => by kernel_rfl) (fun _ => trivial) (fun _ => ?_)
  refine J_block ?_
  refine J_stp (stp_accm eMsg 55 9) ?_
  refine J_loopx (fun x : AccI => [(0, .val (.slice a l.length c)), (2, .val (.slice none 0 0)), (3, .val (.slice x.a x.k x.c)), (4, .val (.int .i64 x.i))]) (fun x : AccI => []) (fun x : AccI => [cAcc (.slice x.a x.k x.c) 55 9 ((List.take x.i.toNat l).map eMsg)]) (fun x : AccI => [(.slice a l.length c, (D.sl 9 (List.map eMsg l)))]) (fun x : AccI => (l.length - x.i).toNat) (fun x : AccI => (0 ≤ x.i ∧ x.i ≤ l.length)) ⟨0, none, 0, 0⟩ [0, 2, 3, 4] [] [0] [0] ?_ (by kernel_rfl) rfl rfl rfl ?_
  · exact ⟨by simp, by simp⟩
  rintro ⟨i, av, k, cv⟩ ⟨hi0, hi⟩
  dsimp only at hi0 hi ⊢
  refine J_stpx (stp_acclen 0 rfl) fun _ hk => ?_
  have hk2 : k ≤ l.length := by simp at hk; omega
  refine J_seq ?_
  refine J_seq ?_
  refine J_reg mixed [.rd 0 [] 0 0, .rd 1 [] 0 0, .rd 2 [] 0 0, .rd 3 [] 0 0] [] [0, 2, 3, 4, 9] (E1 := fun _ => [(0, .val (.slice a l.length c)), (2, .val (.slice none 0 0)), (3, .val (.slice av k cv)), (4, .val (.int .i64 i)), (9, .val (.bool (decide (i < (↑l.length : Int)))))]) (h1 := fun _ => []) (p1 := fun _ => []) (W1 := []) (by kernel_rfl) (fun _ => by kernel_rfl) (fun _ => trivial) (fun _ => ?_)
  refine J_cond (t := decide (i < (↑l.length : Int))) (by kernel_rfl) (by kernel_rfl) (fun hlt => ?_) (fun hlt => ?_)
  · have hlt2 : i < l.length := by simpa using hlt
    obtain ⟨x, hx⟩ : ∃ x, l[i.toNat]? = some x := ⟨_, List.getElem?_eq_getElem (by omega)⟩
    refine J_read2 0 rfl i.toNat (map_at hx) (by kernel_rfl) (fun b1 off1 cs1 ty1 fz1 a1_0 c1_0 a1_1 c1_1 ha1 hrd1 => ?_)
    cases ha1
    have hrd1_0 := rd0 (hrd1 0 _ rfl)
    have hrd1_1 := hrd1 1 _ rfl
    have hrd1_2 := hrd1 2 _ rfl
    have hrd1_3 := hrd1 3 _ rfl
    have hrd1_4 := hrd1 4 _ rfl
    have hrd1_5 := hrd1 5 _ rfl
    have hrd1_6 := hrd1 6 _ rfl
    have hrd1_7 := hrd1 7 _ rfl
    have hrd1_8 := hrd1 8 _ rfl
    try simp only [List.cons_append, List.nil_append, List.append_nil]
    refine J_skip ?_
    refine J_seq ?_
    refine J_block ?_
    refine J_seq ?_
    refine JR_begin mixed [(0, true), (1, true), (2, true), (3, true), (4, false), (5, false), (6, false)] [] (by kernel_rfl) (by kernel_rfl) ?_
    refine JR_run (id := 5) (rest := [(4, false), (5, false), (6, false)]) [.rd 0 [] 0 0, .rd 1 [] 0 0, .rd 2 [] 0 2, .rd 3 [.r 0 (some (.int .i64 x.fm)), .r 0 (some (.int .i64 x.to)), .r 0 (some (.int .i64 x.shard)), .r 0 (some (.int .i64 x.seq)), .r 0 (some (.int .i64 x.time)), .r 0 (some (.bool x.beat)), .r 0 (some (.slice (a1_0, c1_0).fst ((List.map eI x.c.when).length) c1_0)), .r 0 (some (.int .i64 x.c.place)), .r 0 (some (.slice (a1_1, c1_1).fst ((List.map eOp x.c.ops).length) c1_1))] 0 0] [0, 2, 3, 4, 15] (E1 := fun _ => [(0, .val (.slice (some (⟨b1, off1, none⟩)) l.length c)), (2, .val (.slice none 0 0)), (3, .val (.slice av k cv)), (4, .val (.int .i64 i)), (15, .val (.agg #[.int .i64 x.fm, .int .i64 x.to, .int .i64 x.shard, .int .i64 x.seq, .int .i64 x.time, .bool x.beat, .slice (a1_0, c1_0).fst ((List.map eI x.c.when).length) c1_0, .int .i64 x.c.place, .slice (a1_1, c1_1).fst ((List.map eOp x.c.ops).length) c1_1]))]) (h1 := fun _ => []) (p1 := fun _ => [(0 : Int) ≤ i, i < (↑l.length : Int), cs1[off1 + i.toNat * (9 : Nat)]? = some (Value.int IntKind.i64 x.fm), cs1[off1 + i.toNat * (9 : Nat) + (1 : Nat)]? = some (Value.int IntKind.i64 x.to), cs1[off1 + i.toNat * (9 : Nat) + (2 : Nat)]? = some (Value.int IntKind.i64 x.shard), cs1[off1 + i.toNat * (9 : Nat) + (3 : Nat)]? = some (Value.int IntKind.i64 x.seq), cs1[off1 + i.toNat * (9 : Nat) + (4 : Nat)]? = some (Value.int IntKind.i64 x.time), cs1[off1 + i.toNat * (9 : Nat) + (5 : Nat)]? = some (Value.bool x.beat), cs1[off1 + i.toNat * (9 : Nat) + (6 : Nat)]? = some (Value.slice (a1_0, c1_0).fst (List.map eI x.c.when).length (a1_0, c1_0).snd), cs1[off1 + i.toNat * (9 : Nat) + (7 : Nat)]? = some (Value.int IntKind.i64 x.c.place), cs1[off1 + i.toNat * (9 : Nat) + (8 : Nat)]? = some (Value.slice (a1_1, c1_1).fst (List.map eOp x.c.ops).length (a1_1, c1_1).snd)]) (W1 := []) (fun _ => by kernel_rfl) (fun _ => ⟨hi0, hlt2, hrd1_0, hrd1_1, hrd1_2, hrd1_3, hrd1_4, hrd1_5, hrd1_6, hrd1_7, hrd1_8, trivial⟩) (fun _ => ?_)
    refine JR_callp [] 29 #[.agg #[.int .i64 x.fm, .int .i64 x.to, .int .i64 x.shard, .int .i64 x.seq, .int .i64 x.time, .bool x.beat, .slice (a1_0, c1_0).fst ((List.map eI x.c.when).length) c1_0, .int .i64 x.c.place, .slice (a1_1, c1_1).fst ((List.map eOp x.c.ops).length) c1_1]] (some 16) (by kernel_rfl) (fun w S hG => ?_)
    refine (backWire (S := S) (m := x) rfl rfl).mono ?_
    rintro e2 w2 hR
    refine ⟨_, _, _, hR, ?_⟩
    try simp only [List.cons_append, List.nil_append, List.append_nil]
    refine JR_run (id := 5) (rest := []) [.wr 5 [] 0, .wr 6 [.o 0 none, .o 0 none, .o 0 none, .o 0 none, .o 0 none, .o 0 none, .o 0 none, .o 0 none, .o 0 none] 0] [0, 2, 3, 4, 5] (E1 := fun nu1 => [(0, .val (.slice (some (⟨b1, off1, none⟩)) l.length c)), (2, .val (.slice none 0 0)), (3, .val (.slice av k cv)), (4, .val (.int .i64 i)), (5, .val (.pointer (some (⟨nu1 0, 0, none⟩))))]) (h1 := fun nu1 => [(nu1 0, .cells #[.int .i64 x.fm, .int .i64 x.to, .int .i64 x.shard, .int .i64 x.seq, .int .i64 x.time, .bool x.beat, .slice a1_0 ((List.map eI x.c.when).length) c1_0, .int .i64 x.c.place, .slice a1_1 ((List.map eOp x.c.ops).length) c1_1] 55 (0, 0))]) (p1 := fun nu1 => []) (W1 := []) (fun _ => by kernel_rfl) (fun _ => trivial) (fun nu1 => ?_)
    refine JR_end ?_
    refine JR_begin mixed [(0, true), (1, true), (2, false), (3, false), (4, true)] [] (by kernel_rfl) (by kernel_rfl) ?_
    refine JR_run (id := 6) (rest := [(3, false), (4, true)]) [.rd 0 [] 0 0, .rd 1 [.o 0 none, .o 0 none, .o 0 none, .o 0 none, .o 0 none, .o 0 none, .o 0 none, .o 0 none, .o 0 none] 0 0, .wr 2 [] 0] [0, 2, 3, 4, 5, 17, 19] (E1 := fun nu2 => [(0, .val (.slice (some (⟨b1, off1, none⟩)) l.length c)), (2, .val (.slice none 0 0)), (3, .val (.slice av k cv)), (4, .val (.int .i64 i)), (5, .val (.pointer (some (⟨nu1 0, 0, none⟩)))), (17, .val (.slice av k cv)), (19, .val (.slice (some (⟨nu2 0, 0, none⟩)) 1 1))]) (h1 := fun nu2 => [(nu1 0, .cells #[.int .i64 x.fm, .int .i64 x.to, .int .i64 x.shard, .int .i64 x.seq, .int .i64 x.time, .bool x.beat, .slice a1_0 ((List.map eI x.c.when).length) c1_0, .int .i64 x.c.place, .slice a1_1 ((List.map eOp x.c.ops).length) c1_1] 55 (0, 0)), (nu2 0, .cells #[.int .i64 x.fm, .int .i64 x.to, .int .i64 x.shard, .int .i64 x.seq, .int .i64 x.time, .bool x.beat, .slice a1_0 ((List.map eI x.c.when).length) c1_0, .int .i64 x.c.place, .slice a1_1 ((List.map eOp x.c.ops).length) c1_1] 55 (0, 0))]) (p1 := fun nu2 => []) (W1 := []) (fun _ => by kernel_rfl) (fun _ => trivial) (fun nu2 => ?_)
    refine JR_appm 0 48 55 9 104 (.agg #[.int .i64 0, .int .i64 0, .int .i64 0, .int .i64 0, .int .i64 0, .bool false, .slice none 0 0, .int .i64 0, .slice none 0 0]) (a0 := av) (len := k) (cap0 := cv) (ax := (some (⟨nu2 0, 0, none⟩))) (m := 1) (c := 1) (dst := (some 20)) [x] (by kernel_rfl) (by kernel_rfl) (by kernel_rfl) (by kernel_rfl) rfl (by decide) rfl (fun _ _ _ s => src_one s 1 rfl rfl ⟨.inl ⟨rfl, rfl⟩, ⟨.inl ⟨rfl, rfl⟩, ⟨.inl ⟨rfl, rfl⟩, ⟨.inl ⟨rfl, rfl⟩, ⟨.inl ⟨rfl, rfl⟩, ⟨.inl ⟨rfl, rfl⟩, ⟨.inr (.inl (List.mem_of_getElem? (i := 1) rfl)), ⟨.inl ⟨rfl, rfl⟩, ⟨.inr (.inl (List.mem_of_getElem? (i := 2) rfl)), trivial⟩⟩⟩⟩⟩⟩⟩⟩⟩) (by simp only [maxLen]; omega) (by omega) (fun av1 cv1 => ?_)
    try simp only [List.cons_append, List.nil_append, List.append_nil]
    refine JR_run (id := 6) (rest := []) [.rd 4 [] 0 0] [0, 2, 3, 4, 5] (E1 := fun _ => [(0, .val (.slice (some (⟨b1, off1, none⟩)) l.length c)), (2, .val (.slice none 0 0)), (3, .val (.slice av1 (k + 1) cv1)), (4, .val (.int .i64 i)), (5, .val (.pointer (some (⟨nu1 0, 0, none⟩))))]) (h1 := fun _ => [(nu1 0, .cells #[.int .i64 x.fm, .int .i64 x.to, .int .i64 x.shard, .int .i64 x.seq, .int .i64 x.time, .bool x.beat, .slice a1_0 ((List.map eI x.c.when).length) c1_0, .int .i64 x.c.place, .slice a1_1 ((List.map eOp x.c.ops).length) c1_1] 55 (0, 0)), (nu2 0, .cells #[.int .i64 x.fm, .int .i64 x.to, .int .i64 x.shard, .int .i64 x.seq, .int .i64 x.time, .bool x.beat, .slice a1_0 ((List.map eI x.c.when).length) c1_0, .int .i64 x.c.place, .slice a1_1 ((List.map eOp x.c.ops).length) c1_1] 55 (0, 0))]) (p1 := fun _ => []) (W1 := []) (fun _ => by kernel_rfl) (fun _ => trivial) (fun _ => ?_)
    try simp only [List.cons_append, List.nil_append, List.append_nil]
    refine JR_end ?_
    try simp only [List.cons_append, List.nil_append, List.append_nil]
    refine J_eb ?_
    try simp only [List.cons_append, List.nil_append, List.append_nil]
    refine J_reg mixed [.rd 0 [] 0 0, .rd 1 [] 0 1, .rd 2 [] 0 0] [] [0, 2, 3, 4, 5] (E1 := fun _ => [(0, .val (.slice (some (⟨b1, off1, none⟩)) l.length c)), (2, .val (.slice none 0 0)), (3, .val (.slice av1 (k + 1) cv1)), (4, .val (.int .i64 (i + 1))), (5, .val (.pointer (some (⟨nu1 0, 0, none⟩))))]) (h1 := fun _ => [(nu1 0, .cells #[.int .i64 x.fm, .int .i64 x.to, .int .i64 x.shard, .int .i64 x.seq, .int .i64 x.time, .bool x.beat, .slice a1_0 ((List.map eI x.c.when).length) c1_0, .int .i64 x.c.place, .slice a1_1 ((List.map eOp x.c.ops).length) c1_1] 55 (0, 0)), (nu2 0, .cells #[.int .i64 x.fm, .int .i64 x.to, .int .i64 x.shard, .int .i64 x.seq, .int .i64 x.time, .bool x.beat, .slice a1_0 ((List.map eI x.c.when).length) c1_0, .int .i64 x.c.place, .slice a1_1 ((List.map eOp x.c.ops).length) c1_1] 55 (0, 0))]) (p1 := fun _ => [IntKind.i64.wrap (i + (1 : Int)) = i + (1 : Int)]) (W1 := []) (by kernel_rfl) (fun _ => by kernel_rfl) (fun _ => ⟨wrap_i64 (by omega) (by omega), trivial⟩) (fun _ => ?_)
    try simp only [List.cons_append, List.nil_append, List.append_nil]
    rw [take_snoc hi0 hx]
    refine J_backx ⟨i + 1, av1, k + 1, cv1⟩ [0, 2, 3, 4] [] [0] [0] ?_ ?_ (by kernel_rfl) rfl rfl rfl
    · exact ⟨by simp only; omega, by simp only; omega⟩
    · simp only
      omega
  · have e : List.take i.toNat l = l := List.take_of_length_le (by simp at hlt; omega)
    rw [e]
    refine J_exit rfl ?_
    refine J_seq ?_
    refine J_reg mixed [.rd 0 [] 0 0, .rd 1 [] 0 0] [] [2] (E1 := fun _ => [(2, .val (.slice av k cv))]) (h1 := fun _ => []) (p1 := fun _ => []) (W1 := []) (by kernel_rfl) (fun _ => by kernel_rfl) (fun _ => trivial) (fun _ => ?_)
    refine J_return [[]] (.slice av k cv) (by kernel_rfl) (fun a w s => ?_)
    have s2 := s.stp (stp_freeze 0 rfl)
    exact ⟨av, k, cv, s2.ret (by simp) [] [1] rfl rfl⟩

theorem rSeq {w0 : World} {S : Nat → Prop} {M : List Nat} {b mb : Nat} {fm to sh q t : Int} (hP : Pre w0 S M [cObj b (.cells #[.int .i64 fm, .int .i64 to, .int .i64 sh, .int .i64 q, .int .i64 t, .map (some mb)] 89 (0, 0))]) :
    Calls Tryd.prog 13 #[.pointer (some ⟨b, 0, none⟩)] w0 fun e w' => Ret M w0 S w' e (.int .i64 q) [cObj b (.cells #[.int .i64 fm, .int .i64 to, .int .i64 sh, .int .i64 q, .int .i64 t, .map (some mb)] 89 (0, 0))] [] := by
  refine en13 (args := [.pointer (some ⟨b, 0, none⟩)]) (S := S) (C := [cObj b (.cells #[.int .i64 fm, .int .i64 to, .int .i64 sh, .int .i64 q, .int .i64 t, .map (some mb)] 89 (0, 0))]) (G := []) (by kernel_rfl) hP (.nil _ _) ?_
  refine J_show 0 rfl ?_
  refine J_seq ?_
  refine J_reg mixed [.rd 0 [] 0 0] [] [0, 2] (E1 := fun _ => [(0, .val (.pointer (some (⟨b, 0, none⟩)))), (2, .val (.int .i64 0))]) (h1 := fun _ => [(b, .cells #[.int .i64 fm, .int .i64 to, .int .i64 sh, .int .i64 q, .int .i64 t, .map (some mb)] 89 (0, 0))]) (p1 := fun _ => []) (W1 := []) (by kernel_rfl) (fun _ => by kernel_rfl) (fun _ => trivial) (fun _ => ?_)
  refine J_seq ?_
  refine J_reg mixed [.rd 0 [] 0 0, .rd 1 [] 0 0, .rd 2 [] 0 0, .rd 3 [.o 0 none] 0 0, .rd 4 [] 0 0] [] [2] (E1 := fun _ => [(2, .val (.int .i64 q))]) (h1 := fun _ => [(b, .cells #[.int .i64 fm, .int .i64 to, .int .i64 sh, .int .i64 q, .int .i64 t, .map (some mb)] 89 (0, 0))]) (p1 := fun _ => []) (W1 := []) (by kernel_rfl) (fun _ => by kernel_rfl) (fun _ => trivial) (fun _ => ?_)
  refine J_return [[]] (.int .i64 q) (by kernel_rfl) (fun a w s => ?_)
  exact (s.hide 0 rfl).ret (by simp) [0] [] rfl rfl
theorem rTime {w0 : World} {S : Nat → Prop} {M : List Nat} {b mb : Nat} {fm to sh q t : Int} (hP : Pre w0 S M [cObj b (.cells #[.int .i64 fm, .int .i64 to, .int .i64 sh, .int .i64 q, .int .i64 t, .map (some mb)] 89 (0, 0))]) :
    Calls Tryd.prog 22 #[.pointer (some ⟨b, 0, none⟩)] w0 fun e w' => Ret M w0 S w' e (.int .i64 t) [cObj b (.cells #[.int .i64 fm, .int .i64 to, .int .i64 sh, .int .i64 q, .int .i64 t, .map (some mb)] 89 (0, 0))] [] := by
  refine en22 (args := [.pointer (some ⟨b, 0, none⟩)]) (S := S) (C := [cObj b (.cells #[.int .i64 fm, .int .i64 to, .int .i64 sh, .int .i64 q, .int .i64 t, .map (some mb)] 89 (0, 0))]) (G := []) (by kernel_rfl) hP (.nil _ _) ?_
  refine J_show 0 rfl ?_
  refine J_seq ?_
  refine J_reg mixed [.rd 0 [] 0 0] [] [0, 2] (E1 := fun _ => [(0, .val (.pointer (some (⟨b, 0, none⟩)))), (2, .val (.int .i64 0))]) (h1 := fun _ => [(b, .cells #[.int .i64 fm, .int .i64 to, .int .i64 sh, .int .i64 q, .int .i64 t, .map (some mb)] 89 (0, 0))]) (p1 := fun _ => []) (W1 := []) (by kernel_rfl) (fun _ => by kernel_rfl) (fun _ => trivial) (fun _ => ?_)
  refine J_seq ?_
  refine J_reg mixed [.rd 0 [] 0 0, .rd 1 [] 0 0, .rd 2 [] 0 0, .rd 3 [.o 0 none] 0 0, .rd 4 [] 0 0] [] [2] (E1 := fun _ => [(2, .val (.int .i64 t))]) (h1 := fun _ => [(b, .cells #[.int .i64 fm, .int .i64 to, .int .i64 sh, .int .i64 q, .int .i64 t, .map (some mb)] 89 (0, 0))]) (p1 := fun _ => []) (W1 := []) (by kernel_rfl) (fun _ => by kernel_rfl) (fun _ => trivial) (fun _ => ?_)
  refine J_return [[]] (.int .i64 t) (by kernel_rfl) (fun a w s => ?_)
  exact (s.hide 0 rfl).ret (by simp) [0] [] rfl rfl
end Go.Proofs.YtgelnbgjabpdbaaDoor
