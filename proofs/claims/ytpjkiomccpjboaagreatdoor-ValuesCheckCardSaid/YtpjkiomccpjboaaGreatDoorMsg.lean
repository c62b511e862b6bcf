/- Commits and messages as data; own memory of a commit; are they too much; are they the same. -/
import Derived.Test.YtpjkiomccpjboaaGreatDoorDat
import Derived.Test.YtpjkiomccpjboaaGreatDoorMsgT
import Derived.Test.YtpjkiomccpjboaaGreatDoorSame
namespace Go.Proofs.YtpjkiomccpjboaaGreatDoor
open Go Go.Sx

/-- Own memory of a commit. -/
theorem ownCommit {w0 : World} {S : Nat → Prop} {a1 a2 : Option Addr} {n1 c1 n2 c2 : Nat} {c : ComT} (h1 : Rep w0 S (.slice a1 n1 c1) (dInts c.when)) (h2 : Rep w0 S (.slice a2 n2 c2) (.sl 7 (c.ops.map eOp))) (hl1 : c.when.length ≤ 1000000) (hl2 : c.ops.length ≤ 1000000) (hl3 : ∀ o ∈ c.ops, o.dots.length ≤ 1000000) :
    Calls Tryz.prog 18 #[.agg #[.slice a1 n1 c1, .int .i64 c.place, .slice a2 n2 c2]] w0 fun e w' => ∃ b1 m1 d1 b2 m2 d2, Ret [] w0 S w' e (.agg #[.slice b1 m1 d1, .int .i64 c.place, .slice b2 m2 d2]) [] [(.slice b1 m1 d1, dInts c.when), (.slice b2 m2 d2, .sl 7 (c.ops.map eOp))] := by
  obtain rfl := rep_ints_len h1
  have e2 := h2.slen
  rw [List.length_map] at e2
  subst e2
  refine ep18 (args := [.agg #[.slice a1 c.when.length c1, .int .i64 c.place, .slice a2 c.ops.length c2]]) (G := [(_, dInts c.when), (_, .sl 7 (c.ops.map eOp))]) (by kernel_rfl) (.cons h1 (.cons h2 (.nil _ _))) ?_
  refine J_stp (stp_accm eI 3 1) ?_
  try simp only [List.cons_append, List.nil_append, List.append_nil]
  refine J_seq ?_
  refine J_reg mixed [.wr 0 [] 0, .wr 1 [] 0] [] [1, 2] (E1 := fun nu1 => [(1, .val (.pointer (some (⟨nu1 0, 0, none⟩)))), (2, .val (.pointer (some (⟨nu1 1, 0, none⟩))))]) (h1 := fun nu1 => [(nu1 0, .cells #[.slice a1 c.when.length c1, .int .i64 c.place, .slice a2 c.ops.length c2] 28 (0, 0)), (nu1 1, .cells #[.slice none 0 0, .int .i64 0, .slice none 0 0] 28 (0, 0))]) (p1 := fun nu1 => []) (W1 := []) (by kernel_rfl) (fun _ => by kernel_rfl) (fun _ => trivial) (fun nu1 => ?_)
  refine J_seq ?_
  refine J_reg mixed [.rd 0 [] 0 0, .rd 1 [.o 0 none] 0 0, .rd 2 [] 0 0, .wr 3 [] 0, .wr 4 [.o 2 none, .o 2 none, .o 2 none] 0] [(4, [])] [1, 2, 3] (E1 := fun nu2 => [(1, .val (.pointer (some (⟨nu1 0, 0, none⟩)))), (2, .val (.pointer (some (⟨nu1 1, 0, none⟩)))), (3, .val (.pointer (some (⟨nu2 0, 0, none⟩))))]) (h1 := fun nu2 => [(nu1 0, .cells #[.slice a1 c.when.length c1, .int .i64 c.place, .slice a2 c.ops.length c2] 28 (0, 0)), (nu1 1, .cells #[.slice none 0 0, .int .i64 0, .slice none 0 0] 28 (0, 0)), (nu2 0, .cells #[.slice none 0 0, .int .i64 c.place, .slice none 0 0] 28 (0, 0))]) (p1 := fun nu2 => []) (W1 := []) (by kernel_rfl) (fun _ => by kernel_rfl) (fun _ => trivial) (fun nu2 => ?_)
  refine J_seq ?_
  refine JR_begin mixed [(0, true), (1, true), (2, true), (3, true), (4, false), (5, true), (6, false)] [] (by kernel_rfl) (by kernel_rfl) ?_
  refine JR_run (id := 2) (rest := [(4, false), (5, true), (6, false)]) [.rd 0 [] 0 0, .rd 1 [.o 2 none] 0 0, .rd 2 [] 0 0, .rd 3 [.o 0 none] 0 0] [1, 2, 3, 11, 13] (E1 := fun _ => [(1, .val (.pointer (some (⟨nu1 0, 0, none⟩)))), (2, .val (.pointer (some (⟨nu1 1, 0, none⟩)))), (3, .val (.pointer (some (⟨nu2 0, 0, none⟩)))), (11, .val (.slice none 0 0)), (13, .val (.slice a1 c.when.length c1))]) (h1 := fun _ => [(nu1 0, .cells #[.slice a1 c.when.length c1, .int .i64 c.place, .slice a2 c.ops.length c2] 28 (0, 0)), (nu1 1, .cells #[.slice none 0 0, .int .i64 0, .slice none 0 0] 28 (0, 0)), (nu2 0, .cells #[.slice none 0 0, .int .i64 c.place, .slice none 0 0] 28 (0, 0))]) (p1 := fun _ => []) (W1 := []) (fun _ => by kernel_rfl) (fun _ => trivial) (fun _ => ?_)
  refine JR_appm 0 25 3 1 8 (.int .i64 0) (a0 := none) (len := 0) (cap0 := 0) (ax := a1) (m := c.when.length) (c := c1) (dst := (some 14)) c.when (by kernel_rfl) (by kernel_rfl) (by kernel_rfl) (by kernel_rfl) rfl (by decide) rfl (fun _ _ _ s => src_fact s 0 rfl (by decide)) (by simp only [maxLen]; omega) (by omega) (fun av1 cv1 => ?_)
  rw [Nat.zero_add]
  try simp only [List.cons_append, List.nil_append, List.append_nil]
  refine JR_run (id := 2) (rest := []) [.rd 5 [] 0 0, .wr 6 [.o 2 none] 0] [1, 2, 3] (E1 := fun _ => [(1, .val (.pointer (some (⟨nu1 0, 0, none⟩)))), (2, .val (.pointer (some (⟨nu1 1, 0, none⟩)))), (3, .val (.pointer (some (⟨nu2 0, 0, none⟩))))]) (h1 := fun _ => [(nu1 0, .cells #[.slice a1 c.when.length c1, .int .i64 c.place, .slice a2 c.ops.length c2] 28 (0, 0)), (nu1 1, .cells #[.slice none 0 0, .int .i64 0, .slice none 0 0] 28 (0, 0)), (nu2 0, .cells #[.slice av1 c.when.length cv1, .int .i64 c.place, .slice none 0 0] 28 (0, 0))]) (p1 := fun _ => []) (W1 := []) (fun _ => by kernel_rfl) (fun _ => trivial) (fun _ => ?_)
  try simp only [List.cons_append, List.nil_append, List.append_nil]
  refine JR_end ?_
  try simp only [List.cons_append, List.nil_append, List.append_nil]
  refine J_seq ?_
  try simp only [List.cons_append, List.nil_append, List.append_nil]
  refine J_seq ?_
  try simp only [List.cons_append, List.nil_append, List.append_nil]
  refine J_reg mixed [.rd 0 [] 0 0] [] [1, 2, 3, 4] (E1 := fun _ => [(1, .val (.pointer (some (⟨nu1 0, 0, none⟩)))), (2, .val (.pointer (some (⟨nu1 1, 0, none⟩)))), (3, .val (.pointer (some (⟨nu2 0, 0, none⟩)))), (4, .val (.int .i64 0))]) (h1 := fun _ => [(nu1 0, .cells #[.slice a1 c.when.length c1, .int .i64 c.place, .slice a2 c.ops.length c2] 28 (0, 0)), (nu1 1, .cells #[.slice none 0 0, .int .i64 0, .slice none 0 0] 28 (0, 0)), (nu2 0, .cells #[.slice av1 c.when.length cv1, .int .i64 c.place, .slice none 0 0] 28 (0, 0))]) (p1 := fun _ => []) (W1 := []) (by kernel_rfl) (fun _ => by kernel_rfl) (fun _ => trivial) (fun _ => ?_)
  try simp only [List.cons_append, List.nil_append, List.append_nil]
  refine J_block ?_
  try simp only [List.cons_append, List.nil_append, List.append_nil]
  refine J_stp (stp_freeze 0 rfl) ?_
  refine J_stp (stp_accm eOp 24 7) ?_
  refine J_loopx (fun x : AccI => [(1, .val (.pointer (some (⟨nu1 0, 0, none⟩)))), (2, .val (.pointer (some (⟨nu1 1, 0, none⟩)))), (3, .val (.pointer (some (⟨nu2 0, 0, none⟩)))), (4, .val (.int .i64 x.i))]) (fun x : AccI => [(nu1 0, .cells #[.slice a1 c.when.length c1, .int .i64 c.place, .slice a2 c.ops.length c2] 28 (0, 0)), (nu1 1, .cells #[.slice none 0 0, .int .i64 0, .slice none 0 0] 28 (0, 0)), (nu2 0, .cells #[.slice av1 c.when.length cv1, .int .i64 c.place, .slice x.a x.k x.c] 28 (0, 0))]) (fun x : AccI => [cAcc (.slice x.a x.k x.c) 24 7 ((List.take x.i.toNat c.ops).map eOp)]) (fun x : AccI => [(.slice a1 c.when.length c1, (dInts c.when)), (.slice a2 c.ops.length c2, (D.sl 7 (List.map eOp c.ops))), (.slice av1 c.when.length cv1, (D.sl 1 (List.map eI c.when)))]) (fun x : AccI => (c.ops.length - x.i).toNat) (fun x : AccI => (0 ≤ x.i ∧ x.i ≤ c.ops.length)) ⟨0, none, 0, 0⟩ [1, 2, 3, 4] [0, 1, 2] [0] [0, 1, 2] ?_ (by kernel_rfl) rfl rfl rfl ?_
  · exact ⟨by simp, by simp⟩
  rintro ⟨i, av, k, cv⟩ ⟨hi0, hi⟩
  dsimp only at hi0 hi ⊢
  refine J_stpx (stp_acclen 0 rfl) fun _ hk => ?_
  have hk2 : k ≤ c.ops.length := by simp at hk; omega
  refine J_seq ?_
  refine J_seq ?_
  refine J_reg mixed [.rd 0 [] 0 0, .rd 1 [] 0 0, .rd 2 [.o 0 none] 0 0, .rd 3 [] 0 0, .rd 4 [] 0 0] [] [1, 2, 3, 4, 20] (E1 := fun _ => [(1, .val (.pointer (some (⟨nu1 0, 0, none⟩)))), (2, .val (.pointer (some (⟨nu1 1, 0, none⟩)))), (3, .val (.pointer (some (⟨nu2 0, 0, none⟩)))), (4, .val (.int .i64 i)), (20, .val (.bool (decide (i < (↑c.ops.length : Int)))))]) (h1 := fun _ => [(nu1 0, .cells #[.slice a1 c.when.length c1, .int .i64 c.place, .slice a2 c.ops.length c2] 28 (0, 0)), (nu1 1, .cells #[.slice none 0 0, .int .i64 0, .slice none 0 0] 28 (0, 0)), (nu2 0, .cells #[.slice av1 c.when.length cv1, .int .i64 c.place, .slice av k cv] 28 (0, 0))]) (p1 := fun _ => []) (W1 := []) (by kernel_rfl) (fun _ => by kernel_rfl) (fun _ => trivial) (fun _ => ?_)
  refine J_cond (t := decide (i < (↑c.ops.length : Int))) (by kernel_rfl) (by kernel_rfl) (fun hlt => ?_) (fun hlt => ?_)
  · have hlt2 : i < c.ops.length := by simpa using hlt
    obtain ⟨o, ho⟩ : ∃ o, c.ops[i.toNat]? = some o := ⟨_, List.getElem?_eq_getElem (by omega)⟩
    have hd : (o.dots.map eDot).length ≤ 1000000 := by simpa using hl3 o (List.mem_of_getElem? ho)
    refine J_read1 1 rfl i.toNat (map_at ho) (by kernel_rfl) (fun b1 off1 cs1 ty1 fz1 a1_0 c1_0 ha1 hrd1 => ?_)
    cases ha1
    have hrd1_0 := rd0 (hrd1 0 _ rfl)
    have hrd1_1 := hrd1 1 _ rfl
    have hrd1_2 := hrd1 2 _ rfl
    have hrd1_3 := hrd1 3 _ rfl
    have hrd1_4 := hrd1 4 _ rfl
    have hrd1_5 := hrd1 5 _ rfl
    have hrd1_6 := hrd1 6 _ rfl
    refine J_stp (stp_accm eDot 65 3) ?_
    try simp only [List.cons_append, List.nil_append, List.append_nil]
    refine J_skip ?_
    refine J_seq ?_
    refine J_block ?_
    refine J_seq ?_
    refine J_reg mixed [.rd 0 [] 0 0, .rd 1 [.o 0 none] 0 0, .rd 2 [] 0 0, .rd 3 [] 0 2, .rd 4 [.r 0 (some (.int .i64 o.no)), .r 0 (some (.string o.key)), .r 0 (some (.int .i64 o.kind)), .r 0 (some (.string o.text)), .r 0 (some (.int .i64 o.n)), .r 0 (some (.bool o.remove)), .r 0 (some (.slice (a1_0, c1_0).fst ((List.map eDot o.dots).length) c1_0))] 0 0, .wr 5 [] 0, .wr 6 [.o 3 none, .o 3 none, .o 3 none, .o 3 none, .o 3 none, .o 3 none, .o 3 none] 0] [(6, [])] [1, 2, 3, 4, 5] (E1 := fun nu3 => [(1, .val (.pointer (some (⟨nu1 0, 0, none⟩)))), (2, .val (.pointer (some (⟨nu1 1, 0, none⟩)))), (3, .val (.pointer (some (⟨nu2 0, 0, none⟩)))), (4, .val (.int .i64 i)), (5, .val (.pointer (some (⟨nu3 0, 0, none⟩))))]) (h1 := fun nu3 => [(nu1 0, .cells #[.slice a1 c.when.length c1, .int .i64 c.place, .slice (some (⟨b1, off1, none⟩)) c.ops.length c2] 28 (0, 0)), (nu1 1, .cells #[.slice none 0 0, .int .i64 0, .slice none 0 0] 28 (0, 0)), (nu2 0, .cells #[.slice av1 c.when.length cv1, .int .i64 c.place, .slice av k cv] 28 (0, 0)), (nu3 0, .cells #[.int .i64 o.no, .string o.key, .int .i64 o.kind, .string o.text, .int .i64 o.n, .bool o.remove, .slice (a1_0, c1_0).fst ((List.map eDot o.dots).length) c1_0] 24 (0, 0))]) (p1 := fun nu3 => [(0 : Int) ≤ i, i < (↑c.ops.length : Int), cs1[off1 + i.toNat * (7 : Nat)]? = some (Value.int IntKind.i64 o.no), cs1[off1 + i.toNat * (7 : Nat) + (1 : Nat)]? = some (Value.string o.key), cs1[off1 + i.toNat * (7 : Nat) + (2 : Nat)]? = some (Value.int IntKind.i64 o.kind), cs1[off1 + i.toNat * (7 : Nat) + (3 : Nat)]? = some (Value.string o.text), cs1[off1 + i.toNat * (7 : Nat) + (4 : Nat)]? = some (Value.int IntKind.i64 o.n), cs1[off1 + i.toNat * (7 : Nat) + (5 : Nat)]? = some (Value.bool o.remove), cs1[off1 + i.toNat * (7 : Nat) + (6 : Nat)]? = some (Value.slice (a1_0, c1_0).fst (List.map eDot o.dots).length (a1_0, c1_0).snd)]) (W1 := []) (by kernel_rfl) (fun _ => by kernel_rfl) (fun _ => ⟨hi0, hlt2, hrd1_0, hrd1_1, hrd1_2, hrd1_3, hrd1_4, hrd1_5, hrd1_6, trivial⟩) (fun nu3 => ?_)
    refine J_seq ?_
    refine J_reg mixed [.rd 0 [] 0 0] [] [1, 2, 3, 4, 5, 6] (E1 := fun _ => [(1, .val (.pointer (some (⟨nu1 0, 0, none⟩)))), (2, .val (.pointer (some (⟨nu1 1, 0, none⟩)))), (3, .val (.pointer (some (⟨nu2 0, 0, none⟩)))), (4, .val (.int .i64 i)), (5, .val (.pointer (some (⟨nu3 0, 0, none⟩)))), (6, .val (.slice none 0 0))]) (h1 := fun _ => [(nu1 0, .cells #[.slice a1 c.when.length c1, .int .i64 c.place, .slice (some (⟨b1, off1, none⟩)) c.ops.length c2] 28 (0, 0)), (nu1 1, .cells #[.slice none 0 0, .int .i64 0, .slice none 0 0] 28 (0, 0)), (nu2 0, .cells #[.slice av1 c.when.length cv1, .int .i64 c.place, .slice av k cv] 28 (0, 0)), (nu3 0, .cells #[.int .i64 o.no, .string o.key, .int .i64 o.kind, .string o.text, .int .i64 o.n, .bool o.remove, .slice (a1_0, c1_0).fst ((List.map eDot o.dots).length) c1_0] 24 (0, 0))]) (p1 := fun _ => []) (W1 := []) (by kernel_rfl) (fun _ => by kernel_rfl) (fun _ => trivial) (fun _ => ?_)
    refine J_seq ?_
    refine JR_begin mixed [(0, true), (1, true), (2, true), (3, true), (4, true), (5, true), (6, true), (7, false), (8, true), (9, false)] [] (by kernel_rfl) (by kernel_rfl) ?_
    refine JR_run (id := 8) (rest := [(7, false), (8, true), (9, false)]) [.rd 0 [] 0 0, .rd 1 [] 0 0, .rd 2 [.o 0 none] 0 0, .rd 3 [] 0 0, .rd 4 [] 0 2, .rd 5 [] 0 0, .rd 6 [.r 0 (some (.slice (a1_0, c1_0).fst ((List.map eDot o.dots).length) c1_0))] 0 0] [1, 2, 3, 4, 5, 6, 28, 34] (E1 := fun _ => [(1, .val (.pointer (some (⟨nu1 0, 0, none⟩)))), (2, .val (.pointer (some (⟨nu1 1, 0, none⟩)))), (3, .val (.pointer (some (⟨nu2 0, 0, none⟩)))), (4, .val (.int .i64 i)), (5, .val (.pointer (some (⟨nu3 0, 0, none⟩)))), (6, .val (.slice none 0 0)), (28, .val (.slice none 0 0)), (34, .val (.slice (a1_0, c1_0).fst ((List.map eDot o.dots).length) c1_0))]) (h1 := fun _ => [(nu1 0, .cells #[.slice a1 c.when.length c1, .int .i64 c.place, .slice (some (⟨b1, off1, none⟩)) c.ops.length c2] 28 (0, 0)), (nu1 1, .cells #[.slice none 0 0, .int .i64 0, .slice none 0 0] 28 (0, 0)), (nu2 0, .cells #[.slice av1 c.when.length cv1, .int .i64 c.place, .slice av k cv] 28 (0, 0)), (nu3 0, .cells #[.int .i64 o.no, .string o.key, .int .i64 o.kind, .string o.text, .int .i64 o.n, .bool o.remove, .slice (a1_0, c1_0).fst ((List.map eDot o.dots).length) c1_0] 24 (0, 0))]) (p1 := fun _ => [(0 : Int) ≤ i, i < (↑c.ops.length : Int), cs1[off1 + i.toNat * (7 : Nat) + (6 : Nat)]? = some (Value.slice (a1_0, c1_0).fst (List.map eDot o.dots).length (a1_0, c1_0).snd)]) (W1 := []) (fun _ => by kernel_rfl) (fun _ => ⟨hi0, hlt2, hrd1_6, trivial⟩) (fun _ => ?_)
    refine JR_appm 1 22 65 3 24 (.agg #[.int .i64 0, .int .i64 0, .int .i64 0]) (a0 := none) (len := 0) (cap0 := 0) (ax := (a1_0, c1_0).fst) (m := (List.map eDot o.dots).length) (c := c1_0) (dst := (some 35)) o.dots (by kernel_rfl) (by kernel_rfl) (by kernel_rfl) (by kernel_rfl) rfl (by decide) rfl (fun _ _ _ s => src_fact s 3 rfl (by decide)) (by simp only [maxLen]; omega) (by omega) (fun av2 cv2 => ?_)
    rw [Nat.zero_add]
    try simp only [List.cons_append, List.nil_append, List.append_nil]
    refine JR_run (id := 8) (rest := []) [.rd 8 [] 0 0, .wr 9 [.o 3 none] 0] [1, 2, 3, 4, 5, 6] (E1 := fun _ => [(1, .val (.pointer (some (⟨nu1 0, 0, none⟩)))), (2, .val (.pointer (some (⟨nu1 1, 0, none⟩)))), (3, .val (.pointer (some (⟨nu2 0, 0, none⟩)))), (4, .val (.int .i64 i)), (5, .val (.pointer (some (⟨nu3 0, 0, none⟩)))), (6, .val (.slice none 0 0))]) (h1 := fun _ => [(nu1 0, .cells #[.slice a1 c.when.length c1, .int .i64 c.place, .slice (some (⟨b1, off1, none⟩)) c.ops.length c2] 28 (0, 0)), (nu1 1, .cells #[.slice none 0 0, .int .i64 0, .slice none 0 0] 28 (0, 0)), (nu2 0, .cells #[.slice av1 c.when.length cv1, .int .i64 c.place, .slice av k cv] 28 (0, 0)), (nu3 0, .cells #[.int .i64 o.no, .string o.key, .int .i64 o.kind, .string o.text, .int .i64 o.n, .bool o.remove, .slice av2 ((List.map eDot o.dots).length) cv2] 24 (0, 0))]) (p1 := fun _ => []) (W1 := []) (fun _ => by kernel_rfl) (fun _ => trivial) (fun _ => ?_)
    try simp only [List.cons_append, List.nil_append, List.append_nil]
    refine JR_end ?_
    try simp only [List.cons_append, List.nil_append, List.append_nil]
    refine J_stp (stp_freeze 1 rfl) ?_
    try simp only [List.cons_append, List.nil_append, List.append_nil]
    refine JR_begin mixed [(0, true), (1, true), (2, true), (3, false), (4, false), (5, true), (6, false)] [] (by kernel_rfl) (by kernel_rfl) ?_
    refine JR_run (id := 9) (rest := [(4, false), (5, true), (6, false)]) [.rd 0 [] 0 0, .rd 1 [.o 2 none] 0 0, .rd 2 [.o 3 none, .o 3 none, .o 3 none, .o 3 none, .o 3 none, .o 3 none, .o 3 none] 0 0, .wr 3 [] 0] [1, 2, 3, 4, 5, 6, 38, 40] (E1 := fun nu4 => [(1, .val (.pointer (some (⟨nu1 0, 0, none⟩)))), (2, .val (.pointer (some (⟨nu1 1, 0, none⟩)))), (3, .val (.pointer (some (⟨nu2 0, 0, none⟩)))), (4, .val (.int .i64 i)), (5, .val (.pointer (some (⟨nu3 0, 0, none⟩)))), (6, .val (.slice none 0 0)), (38, .val (.slice av k cv)), (40, .val (.slice (some (⟨nu4 0, 0, none⟩)) 1 1))]) (h1 := fun nu4 => [(nu1 0, .cells #[.slice a1 c.when.length c1, .int .i64 c.place, .slice (some (⟨b1, off1, none⟩)) c.ops.length c2] 28 (0, 0)), (nu1 1, .cells #[.slice none 0 0, .int .i64 0, .slice none 0 0] 28 (0, 0)), (nu2 0, .cells #[.slice av1 c.when.length cv1, .int .i64 c.place, .slice av k cv] 28 (0, 0)), (nu3 0, .cells #[.int .i64 o.no, .string o.key, .int .i64 o.kind, .string o.text, .int .i64 o.n, .bool o.remove, .slice av2 ((List.map eDot o.dots).length) cv2] 24 (0, 0)), (nu4 0, .cells #[.int .i64 o.no, .string o.key, .int .i64 o.kind, .string o.text, .int .i64 o.n, .bool o.remove, .slice av2 ((List.map eDot o.dots).length) cv2] 24 (0, 0))]) (p1 := fun nu4 => []) (W1 := []) (fun _ => by kernel_rfl) (fun _ => trivial) (fun nu4 => ?_)
    refine JR_appm 0 26 24 7 88 (.agg #[.int .i64 0, .string (ByteArray.mk #[]), .int .i64 0, .string (ByteArray.mk #[]), .int .i64 0, .bool false, .slice none 0 0]) (a0 := av) (len := k) (cap0 := cv) (ax := (some (⟨nu4 0, 0, none⟩))) (m := 1) (c := 1) (dst := (some 41)) [o] (by kernel_rfl) (by kernel_rfl) (by kernel_rfl) (by kernel_rfl) rfl (by decide) rfl (fun _ _ _ s => src_one s 4 rfl rfl ⟨.inl ⟨rfl, rfl⟩, ⟨.inl ⟨rfl, rfl⟩, ⟨.inl ⟨rfl, rfl⟩, ⟨.inl ⟨rfl, rfl⟩, ⟨.inl ⟨rfl, rfl⟩, ⟨.inl ⟨rfl, rfl⟩, ⟨.inr (.inl (List.mem_of_getElem? (i := 4) rfl)), trivial⟩⟩⟩⟩⟩⟩⟩) (by simp only [maxLen]; omega) (by omega) (fun av3 cv3 => ?_)
    try simp only [List.cons_append, List.nil_append, List.append_nil]
    refine JR_run (id := 9) (rest := []) [.rd 5 [] 0 0, .wr 6 [.o 2 none] 0] [1, 2, 3, 4, 5, 6] (E1 := fun _ => [(1, .val (.pointer (some (⟨nu1 0, 0, none⟩)))), (2, .val (.pointer (some (⟨nu1 1, 0, none⟩)))), (3, .val (.pointer (some (⟨nu2 0, 0, none⟩)))), (4, .val (.int .i64 i)), (5, .val (.pointer (some (⟨nu3 0, 0, none⟩)))), (6, .val (.slice none 0 0))]) (h1 := fun _ => [(nu1 0, .cells #[.slice a1 c.when.length c1, .int .i64 c.place, .slice (some (⟨b1, off1, none⟩)) c.ops.length c2] 28 (0, 0)), (nu1 1, .cells #[.slice none 0 0, .int .i64 0, .slice none 0 0] 28 (0, 0)), (nu2 0, .cells #[.slice av1 c.when.length cv1, .int .i64 c.place, .slice av3 (k + 1) cv3] 28 (0, 0)), (nu3 0, .cells #[.int .i64 o.no, .string o.key, .int .i64 o.kind, .string o.text, .int .i64 o.n, .bool o.remove, .slice av2 ((List.map eDot o.dots).length) cv2] 24 (0, 0)), (nu4 0, .cells #[.int .i64 o.no, .string o.key, .int .i64 o.kind, .string o.text, .int .i64 o.n, .bool o.remove, .slice av2 ((List.map eDot o.dots).length) cv2] 24 (0, 0))]) (p1 := fun _ => []) (W1 := []) (fun _ => by kernel_rfl) (fun _ => trivial) (fun _ => ?_)
    try simp only [List.cons_append, List.nil_append, List.append_nil]
    refine JR_end ?_
    try simp only [List.cons_append, List.nil_append, List.append_nil]
    refine J_eb ?_
    try simp only [List.cons_append, List.nil_append, List.append_nil]
    refine J_reg mixed [.rd 0 [] 0 0, .rd 1 [] 0 1, .rd 2 [] 0 0] [] [1, 2, 3, 4, 5, 6] (E1 := fun _ => [(1, .val (.pointer (some (⟨nu1 0, 0, none⟩)))), (2, .val (.pointer (some (⟨nu1 1, 0, none⟩)))), (3, .val (.pointer (some (⟨nu2 0, 0, none⟩)))), (4, .val (.int .i64 (i + 1))), (5, .val (.pointer (some (⟨nu3 0, 0, none⟩)))), (6, .val (.slice none 0 0))]) (h1 := fun _ => [(nu1 0, .cells #[.slice a1 c.when.length c1, .int .i64 c.place, .slice (some (⟨b1, off1, none⟩)) c.ops.length c2] 28 (0, 0)), (nu1 1, .cells #[.slice none 0 0, .int .i64 0, .slice none 0 0] 28 (0, 0)), (nu2 0, .cells #[.slice av1 c.when.length cv1, .int .i64 c.place, .slice av3 (k + 1) cv3] 28 (0, 0)), (nu3 0, .cells #[.int .i64 o.no, .string o.key, .int .i64 o.kind, .string o.text, .int .i64 o.n, .bool o.remove, .slice av2 ((List.map eDot o.dots).length) cv2] 24 (0, 0)), (nu4 0, .cells #[.int .i64 o.no, .string o.key, .int .i64 o.kind, .string o.text, .int .i64 o.n, .bool o.remove, .slice av2 ((List.map eDot o.dots).length) cv2] 24 (0, 0))]) (p1 := fun _ => [IntKind.i64.wrap (i + (1 : Int)) = i + (1 : Int)]) (W1 := []) (by kernel_rfl) (fun _ => by kernel_rfl) (fun _ => ⟨wrap_i64 (by omega) (by omega), trivial⟩) (fun _ => ?_)
    try simp only [List.cons_append, List.nil_append, List.append_nil]
    rw [take_snoc hi0 ho]
    refine J_backx ⟨i + 1, av3, k + 1, cv3⟩ [1, 2, 3, 4] [0, 1, 2] [0] [0, 1, 2] ?_ ?_ (by kernel_rfl) rfl rfl rfl
    · exact ⟨by simp only; omega, by simp only; omega⟩
    · simp only
      omega
  · refine J_exit rfl ?_
    refine J_seq ?_
    refine J_reg mixed [.rd 0 [.o 2 none, .o 2 none, .o 2 none] 0 0, .wr 1 [.o 1 none, .o 1 none, .o 1 none] 0] [(1, [1])] [2] (E1 := fun _ => [(2, .val (.pointer (some (⟨nu1 1, 0, none⟩))))]) (h1 := fun _ => [(nu1 0, .cells #[.slice a1 c.when.length c1, .int .i64 c.place, .slice a2 c.ops.length c2] 28 (0, 0)), (nu1 1, .cells #[.slice av1 c.when.length cv1, .int .i64 c.place, .slice av k cv] 28 (0, 0)), (nu2 0, .cells #[.slice av1 c.when.length cv1, .int .i64 c.place, .slice av k cv] 28 (0, 0))]) (p1 := fun _ => []) (W1 := []) (by kernel_rfl) (fun _ => by kernel_rfl) (fun _ => trivial) (fun _ => ?_)
    refine J_return [[.o 1 none, .o 1 none, .o 1 none]] (.agg #[.slice av1 c.when.length cv1, .int .i64 c.place, .slice av k cv]) (by kernel_rfl) (fun a w s => ?_)
    have e : List.take i.toNat c.ops = c.ops := List.take_of_length_le (by simp at hlt; omega)
    rw [e] at hk s
    rw [List.length_map] at hk
    have s2 := s.stp (stp_freeze 0 rfl)
    exact ⟨_, _, _, _, _, _, s2.ret (by simp) [] [2, 3] rfl rfl⟩
end Go.Proofs.YtpjkiomccpjboaaGreatDoor
