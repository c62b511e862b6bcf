/- stream: Again, of any messages. -/
import Derived.Test.YtgelnbgjabpdbaaDoorSend2
import Derived.Test.YtgelnbgjabpdbaaDoorMsgs
import Derived.Test.YtgelnbgjabpdbaaDoorHear
namespace Go.Proofs.YtgelnbgjabpdbaaDoor
open Go Go.Sx

theorem sagain {w0 : World} {S : Nat → Prop} {M : List Nat} {b : Nat} {fm to sh q t : Int} {a : Option Addr} {k cc : Nat} {L : List MsgT}
    (hP : Pre w0 S M [cObj b (sCells fm to sh q t (.slice a k cc)), cAcc (.slice a k cc) 37 9 (L.map eMsg)]) (hL : L.length ≤ 1000000) (hf : ∀ x ∈ L, Fit x) :
    Calls Tryd.prog 14 #[.pointer (some ⟨b, 0, none⟩)] w0 fun e w' => ∃ a' c',
      Ret M w0 S w' e (.slice a' L.length c') [cObj b (sCells fm to sh q t (.slice a k cc)), cAcc (.slice a k cc) 37 9 (L.map eMsg)] [(.slice a' L.length c', .sl 9 (L.map eMsg))] := by
  refine en14 (args := [.pointer (some ⟨b, 0, none⟩)]) (S := S) (C := [cObj b (sCells fm to sh q t (.slice a k cc)), cAcc (.slice a k cc) 37 9 (L.map eMsg)]) (G := []) (by kernel_rfl) hP (.nil _ _) ?_
  refine J_show 0 rfl ?_
  refine J_stpx (stp_acclen 0 rfl) fun _ hk => ?_
  rw [List.length_map] at hk
  subst hk
  refine J_stp (stp_accm eMsg 37 9) ?_
  try simp only [List.cons_append, List.nil_append, List.append_nil]
  refine J_seq ?_
  try simp only [List.cons_append, List.nil_append, List.append_nil]
  refine J_reg mixed [.rd 0 [] 0 0] [] [0, 2] (E1 := fun _ => [(0, .val (.pointer (some (⟨b, 0, none⟩)))), (2, .val (.slice none 0 0))]) (h1 := fun _ => [(b, .cells #[.int .i64 fm, .int .i64 to, .int .i64 sh, .int .i64 q, .int .i64 t, .slice a L.length cc] 86 (0, 0))]) (p1 := fun _ => []) (W1 := []) (by kernel_rfl) (fun _ => by kernel_rfl) (fun _ => trivial) (fun _ => ?_)
  try simp only [List.cons_append, List.nil_append, List.append_nil]
  refine J_seq ?_
  try simp only [List.cons_append, List.nil_append, List.append_nil]
  refine J_reg mixed [.rd 0 [] 0 0] [] [0, 2, 3] (E1 := fun _ => [(0, .val (.pointer (some (⟨b, 0, none⟩)))), (2, .val (.slice none 0 0)), (3, .val (.slice none 0 0))]) (h1 := fun _ => [(b, .cells #[.int .i64 fm, .int .i64 to, .int .i64 sh, .int .i64 q, .int .i64 t, .slice a L.length cc] 86 (0, 0))]) (p1 := fun _ => []) (W1 := []) (by kernel_rfl) (fun _ => by kernel_rfl) (fun _ => trivial) (fun _ => ?_)
  try simp only [List.cons_append, List.nil_append, List.append_nil]
  refine J_seq ?_
  try simp only [List.cons_append, List.nil_append, List.append_nil]
  refine J_seq ?_
  try simp only [List.cons_append, List.nil_append, List.append_nil]
  refine J_reg mixed [.rd 0 [] 0 0, .rd 1 [] 0 0, .rd 2 [] 0 0, .rd 3 [.o 0 none] 0 0, .rd 4 [] 0 0, .rd 5 [] 0 0] [] [2, 3, 9, 10, 11] (E1 := fun _ => [(2, .val (.slice none 0 0)), (3, .val (.slice none 0 0)), (9, .val (.slice a L.length cc)), (10, .val (.int .i64 (↑L.length : Int))), (11, .val (.int .i64 0))]) (h1 := fun _ => [(b, .cells #[.int .i64 fm, .int .i64 to, .int .i64 sh, .int .i64 q, .int .i64 t, .slice a L.length cc] 86 (0, 0))]) (p1 := fun _ => []) (W1 := []) (by kernel_rfl) (fun _ => by kernel_rfl) (fun _ => trivial) (fun _ => ?_)
  try simp only [List.cons_append, List.nil_append, List.append_nil]
  refine J_block ?_
  try simp only [List.cons_append, List.nil_append, List.append_nil]
  refine J_loopx (fun x : AccI => [(2, .val (.slice none 0 0)), (3, .val (.slice x.a x.k x.c)), (9, .val (.slice a L.length cc)), (10, .val (.int .i64 L.length)), (11, .val (.int .i64 x.i))]) (fun x : AccI => [(b, .cells #[.int .i64 fm, .int .i64 to, .int .i64 sh, .int .i64 q, .int .i64 t, .slice a L.length cc] 86 (0, 0))]) (fun x : AccI => [cAcc (.slice a L.length cc) 37 9 (L.map eMsg), cAcc (.slice x.a x.k x.c) 37 9 ((List.take x.i.toNat L).map eMsg)]) (fun x : AccI => []) (fun x : AccI => (L.length - x.i).toNat) (fun x : AccI => (0 ≤ x.i ∧ x.i ≤ L.length)) ⟨0, none, 0, 0⟩ [2, 3, 9, 10, 11] [0] [0, 1] [] ?_ (by kernel_rfl) rfl rfl rfl ?_
  · exact ⟨by simp, by simp⟩
  rintro ⟨i, av, k, cv⟩ ⟨hi0, hi⟩
  dsimp only at hi0 hi ⊢
  refine J_stpx (stp_acclen 1 rfl) fun _ hk => ?_
  have hk2 : k ≤ L.length := by simp at hk; omega
  refine J_seq ?_
  refine J_reg mixed [.rd 0 [] 0 0] [] [2, 3, 9, 10, 11, 12] (E1 := fun _ => [(2, .val (.slice none 0 0)), (3, .val (.slice av k cv)), (9, .val (.slice a L.length cc)), (10, .val (.int .i64 (↑L.length : Int))), (11, .val (.int .i64 i)), (12, .val (.bool (decide (i < (↑L.length : Int)))))]) (h1 := fun _ => [(b, .cells #[.int .i64 fm, .int .i64 to, .int .i64 sh, .int .i64 q, .int .i64 t, .slice a L.length cc] 86 (0, 0))]) (p1 := fun _ => []) (W1 := []) (by kernel_rfl) (fun _ => by kernel_rfl) (fun _ => trivial) (fun _ => ?_)
  refine J_seq ?_
  refine J_cond (t := decide (i < (↑L.length : Int))) (by kernel_rfl) (by kernel_rfl) (fun hlt => ?_) (fun hlt => ?_)
  · have hlt2 : i < L.length := by simpa using hlt
    obtain ⟨x, hx⟩ : ∃ x, L[i.toNat]? = some x := ⟨_, List.getElem?_eq_getElem (by omega)⟩
    obtain ⟨f1, f2, f3⟩ := hf x (List.mem_of_getElem? hx)
    refine J_openacc 0 rfl (by intro h0; rw [List.map_eq_nil_iff] at h0; rw [h0] at hx; simp at hx) fun g cur xs hu _ _ hrow => ?_
    subst hu
    refine J_stpx (stp_readrows 1 rfl i.toNat (map_at hx)) fun ls hls => ?_
    obtain ⟨hls1, hls2⟩ := hls
    obtain ⟨⟨xa, xc⟩, ⟨ya, yc⟩, rfl⟩ : ∃ l0 l1, ls = [l0, l1] := len2 hls1
    have f := fun (j : Nat) v h => hrow.atx (hls2 j v h)
    have r0 : cur[0 + i.toNat * 9]? = some (.int .i64 x.fm) := by rw [Nat.zero_add]; exact f 0 _ rfl
    have r1 : cur[0 + i.toNat * 9 + 1]? = some (.int .i64 x.to) := by rw [Nat.zero_add]; exact f 1 _ rfl
    have r2 : cur[0 + i.toNat * 9 + 2]? = some (.int .i64 x.shard) := by rw [Nat.zero_add]; exact f 2 _ rfl
    have r3 : cur[0 + i.toNat * 9 + 3]? = some (.int .i64 x.seq) := by rw [Nat.zero_add]; exact f 3 _ rfl
    have r4 : cur[0 + i.toNat * 9 + 4]? = some (.int .i64 x.time) := by rw [Nat.zero_add]; exact f 4 _ rfl
    have r5 : cur[0 + i.toNat * 9 + 5]? = some (.bool x.beat) := by rw [Nat.zero_add]; exact f 5 _ rfl
    have r6 : cur[0 + i.toNat * 9 + 6]? = some (.slice xa (x.c.when.map eI).length xc) := by rw [Nat.zero_add]; exact f 6 _ rfl
    have r7 : cur[0 + i.toNat * 9 + 7]? = some (.int .i64 x.c.place) := by rw [Nat.zero_add]; exact f 7 _ rfl
    have r8 : cur[0 + i.toNat * 9 + 8]? = some (.slice ya (x.c.ops.map eOp).length yc) := by rw [Nat.zero_add]; exact f 8 _ rfl
    try simp only [List.cons_append, List.nil_append, List.append_nil]
    refine J_skip ?_
    try simp only [List.cons_append, List.nil_append, List.append_nil]
    refine J_seq ?_
    try simp only [List.cons_append, List.nil_append, List.append_nil]
    refine J_block ?_
    try simp only [List.cons_append, List.nil_append, List.append_nil]
    refine J_seq ?_
    try simp only [List.cons_append, List.nil_append, List.append_nil]
    refine J_reg mixed [.rd 0 [] 0 2, .rd 1 [.o 1 (some (.int .i64 x.fm)), .o 1 (some (.int .i64 x.to)), .o 1 (some (.int .i64 x.shard)), .o 1 (some (.int .i64 x.seq)), .o 1 (some (.int .i64 x.time)), .o 1 (some (.bool x.beat)), .o 1 (some (.slice xa ((List.map eI x.c.when).length) xc)), .o 1 (some (.int .i64 x.c.place)), .o 1 (some (.slice ya ((List.map eOp x.c.ops).length) yc))] 0 0, .wr 2 [] 0, .wr 3 [.o 2 none, .o 2 none, .o 2 none, .o 2 none, .o 2 none, .o 2 none, .o 2 none, .o 2 none, .o 2 none] 0] [(3, [])] [2, 3, 5, 9, 10, 11] (E1 := fun nu1 => [(2, .val (.slice none 0 0)), (3, .val (.slice av k cv)), (5, .val (.pointer (some (⟨nu1 0, 0, none⟩)))), (9, .val (.slice (some (⟨g, 0, none⟩)) L.length cc)), (10, .val (.int .i64 (↑L.length : Int))), (11, .val (.int .i64 i))]) (h1 := fun nu1 => [(b, .cells #[.int .i64 fm, .int .i64 to, .int .i64 sh, .int .i64 q, .int .i64 t, .slice (some (⟨g, 0, none⟩)) L.length cc] 86 (0, 0)), (g, .cells cur 37 (0, 0)), (nu1 0, .cells #[.int .i64 x.fm, .int .i64 x.to, .int .i64 x.shard, .int .i64 x.seq, .int .i64 x.time, .bool x.beat, .slice xa ((List.map eI x.c.when).length) xc, .int .i64 x.c.place, .slice ya ((List.map eOp x.c.ops).length) yc] 37 (0, 0))]) (p1 := fun nu1 => [(0 : Int) ≤ i, i < (↑L.length : Int), cur[(0 : Nat) + i.toNat * (9 : Nat)]? = some (Value.int IntKind.i64 x.fm), cur[(0 : Nat) + i.toNat * (9 : Nat) + (1 : Nat)]? = some (Value.int IntKind.i64 x.to), cur[(0 : Nat) + i.toNat * (9 : Nat) + (2 : Nat)]? = some (Value.int IntKind.i64 x.shard), cur[(0 : Nat) + i.toNat * (9 : Nat) + (3 : Nat)]? = some (Value.int IntKind.i64 x.seq), cur[(0 : Nat) + i.toNat * (9 : Nat) + (4 : Nat)]? = some (Value.int IntKind.i64 x.time), cur[(0 : Nat) + i.toNat * (9 : Nat) + (5 : Nat)]? = some (Value.bool x.beat), cur[(0 : Nat) + i.toNat * (9 : Nat) + (6 : Nat)]? = some (Value.slice xa (List.map eI x.c.when).length xc), cur[(0 : Nat) + i.toNat * (9 : Nat) + (7 : Nat)]? = some (Value.int IntKind.i64 x.c.place), cur[(0 : Nat) + i.toNat * (9 : Nat) + (8 : Nat)]? = some (Value.slice ya (List.map eOp x.c.ops).length yc)]) (W1 := []) (by kernel_rfl) (fun _ => by kernel_rfl) (fun _ => ⟨hi0, hlt2, r0, r1, r2, r3, r4, r5, r6, r7, r8, trivial⟩) (fun nu1 => ?_)
    try simp only [List.cons_append, List.nil_append, List.append_nil]
    refine JR_begin mixed [(0, true), (1, true), (2, false), (3, false), (4, false), (5, true)] [] (by kernel_rfl) (by kernel_rfl) ?_
    refine JR_run (id := 5) (rest := [(2, false), (3, false), (4, false), (5, true)]) [.rd 0 [] 0 0, .rd 1 [.o 2 none, .o 2 none, .o 2 none, .o 2 none, .o 2 none, .o 2 none, .o 2 none, .o 2 none, .o 2 none] 0 0] [2, 3, 5, 9, 10, 11, 15, 16] (E1 := fun _ => [(2, .val (.slice none 0 0)), (3, .val (.slice av k cv)), (5, .val (.pointer (some (⟨nu1 0, 0, none⟩)))), (9, .val (.slice (some (⟨g, 0, none⟩)) L.length cc)), (10, .val (.int .i64 (↑L.length : Int))), (11, .val (.int .i64 i)), (15, .val (.slice av k cv)), (16, .val (.agg #[.int .i64 x.fm, .int .i64 x.to, .int .i64 x.shard, .int .i64 x.seq, .int .i64 x.time, .bool x.beat, .slice xa ((List.map eI x.c.when).length) xc, .int .i64 x.c.place, .slice ya ((List.map eOp x.c.ops).length) yc]))]) (h1 := fun _ => [(b, .cells #[.int .i64 fm, .int .i64 to, .int .i64 sh, .int .i64 q, .int .i64 t, .slice (some (⟨g, 0, none⟩)) L.length cc] 86 (0, 0)), (g, .cells cur 37 (0, 0)), (nu1 0, .cells #[.int .i64 x.fm, .int .i64 x.to, .int .i64 x.shard, .int .i64 x.seq, .int .i64 x.time, .bool x.beat, .slice xa ((List.map eI x.c.when).length) xc, .int .i64 x.c.place, .slice ya ((List.map eOp x.c.ops).length) yc] 37 (0, 0))]) (p1 := fun _ => []) (W1 := []) (fun _ => by kernel_rfl) (fun _ => trivial) (fun _ => ?_)
    refine JR_callp [] 34 #[.agg #[.int .i64 x.fm, .int .i64 x.to, .int .i64 x.shard, .int .i64 x.seq, .int .i64 x.time, .bool x.beat, .slice xa ((List.map eI x.c.when).length) xc, .int .i64 x.c.place, .slice ya ((List.map eOp x.c.ops).length) yc]] (some 17) (by kernel_rfl) (fun w S hG => ?_)
    refine (sOwn (m := x) (hG.at 0 rfl) (hG.at 1 rfl) f1 f2 f3).mono ?_
    rintro e1 w1 ⟨u1, d1, u2, d2, hR⟩
    refine ⟨_, _, _, hR, ?_⟩
    try simp only [List.cons_append, List.nil_append, List.append_nil]
    refine JR_run (id := 5) (rest := [(4, false), (5, true)]) [.wr 3 [] 0] [2, 3, 5, 9, 10, 11, 15, 18] (E1 := fun nu2 => [(2, .val (.slice none 0 0)), (3, .val (.slice av k cv)), (5, .val (.pointer (some (⟨nu1 0, 0, none⟩)))), (9, .val (.slice (some (⟨g, 0, none⟩)) L.length cc)), (10, .val (.int .i64 (↑L.length : Int))), (11, .val (.int .i64 i)), (15, .val (.slice av k cv)), (18, .val (.slice (some (⟨nu2 0, 0, none⟩)) 1 1))]) (h1 := fun nu2 => [(b, .cells #[.int .i64 fm, .int .i64 to, .int .i64 sh, .int .i64 q, .int .i64 t, .slice (some (⟨g, 0, none⟩)) L.length cc] 86 (0, 0)), (g, .cells cur 37 (0, 0)), (nu1 0, .cells #[.int .i64 x.fm, .int .i64 x.to, .int .i64 x.shard, .int .i64 x.seq, .int .i64 x.time, .bool x.beat, .slice xa ((List.map eI x.c.when).length) xc, .int .i64 x.c.place, .slice ya ((List.map eOp x.c.ops).length) yc] 37 (0, 0)), (nu2 0, .cells #[.int .i64 x.fm, .int .i64 x.to, .int .i64 x.shard, .int .i64 x.seq, .int .i64 x.time, .bool x.beat, .slice u1 ((List.map eI x.c.when).length) d1, .int .i64 x.c.place, .slice u2 ((List.map eOp x.c.ops).length) d2] 37 (0, 0))]) (p1 := fun nu2 => []) (W1 := []) (fun _ => by kernel_rfl) (fun _ => trivial) (fun nu2 => ?_)
    try simp only [List.cons_append, List.nil_append, List.append_nil]
    refine JR_appm 0 32 37 9 104 (.agg #[.int .i64 0, .int .i64 0, .int .i64 0, .int .i64 0, .int .i64 0, .bool false, .slice none 0 0, .int .i64 0, .slice none 0 0]) (a0 := av) (len := k) (cap0 := cv) (ax := (some (⟨nu2 0, 0, none⟩))) (m := 1) (c := 1) (dst := (some 19)) [x] (by kernel_rfl) (by kernel_rfl) (by kernel_rfl) (by kernel_rfl) rfl (by decide) rfl (fun _ _ _ s => src_one s 3 rfl rfl ⟨.inl ⟨rfl, rfl⟩, ⟨.inl ⟨rfl, rfl⟩, ⟨.inl ⟨rfl, rfl⟩, ⟨.inl ⟨rfl, rfl⟩, ⟨.inl ⟨rfl, rfl⟩, ⟨.inl ⟨rfl, rfl⟩, ⟨.inr (.inl (List.mem_of_getElem? (i := 2) rfl)), ⟨.inl ⟨rfl, rfl⟩, ⟨.inr (.inl (List.mem_of_getElem? (i := 3) rfl)), trivial⟩⟩⟩⟩⟩⟩⟩⟩⟩) (by simp only [maxLen]; omega) (by omega) (fun av1 cv1 => ?_)
    try simp only [List.cons_append, List.nil_append, List.append_nil]
    refine JR_run (id := 5) (rest := []) [.rd 5 [] 0 0] [2, 3, 5, 9, 10, 11] (E1 := fun _ => [(2, .val (.slice none 0 0)), (3, .val (.slice av1 (k + 1) cv1)), (5, .val (.pointer (some (⟨nu1 0, 0, none⟩)))), (9, .val (.slice (some (⟨g, 0, none⟩)) L.length cc)), (10, .val (.int .i64 (↑L.length : Int))), (11, .val (.int .i64 i))]) (h1 := fun _ => [(b, .cells #[.int .i64 fm, .int .i64 to, .int .i64 sh, .int .i64 q, .int .i64 t, .slice (some (⟨g, 0, none⟩)) L.length cc] 86 (0, 0)), (g, .cells cur 37 (0, 0)), (nu1 0, .cells #[.int .i64 x.fm, .int .i64 x.to, .int .i64 x.shard, .int .i64 x.seq, .int .i64 x.time, .bool x.beat, .slice xa ((List.map eI x.c.when).length) xc, .int .i64 x.c.place, .slice ya ((List.map eOp x.c.ops).length) yc] 37 (0, 0)), (nu2 0, .cells #[.int .i64 x.fm, .int .i64 x.to, .int .i64 x.shard, .int .i64 x.seq, .int .i64 x.time, .bool x.beat, .slice u1 ((List.map eI x.c.when).length) d1, .int .i64 x.c.place, .slice u2 ((List.map eOp x.c.ops).length) d2] 37 (0, 0))]) (p1 := fun _ => []) (W1 := []) (fun _ => by kernel_rfl) (fun _ => trivial) (fun _ => ?_)
    try simp only [List.cons_append, List.nil_append, List.append_nil]
    refine JR_end ?_
    try simp only [List.cons_append, List.nil_append, List.append_nil]
    refine J_eb ?_
    try simp only [List.cons_append, List.nil_append, List.append_nil]
    refine J_hide 1 rfl ?_
    refine J_stp (stp_closeacc 2 0 rfl rfl hrow (by decide)) ?_
    rw [show (List.map eMsg L).length = L.length from List.length_map ..]
    try simp only [List.cons_append, List.nil_append, List.append_nil]
    refine J_reg mixed [.rd 0 [] 0 1, .rd 1 [] 0 0] [] [2, 3, 5, 9, 10, 11] (E1 := fun _ => [(2, .val (.slice none 0 0)), (3, .val (.slice av1 (k + 1) cv1)), (5, .val (.pointer (some (⟨nu1 0, 0, none⟩)))), (9, .val (.slice (some (⟨g, 0, none⟩)) L.length cc)), (10, .val (.int .i64 (↑L.length : Int))), (11, .val (.int .i64 (i + 1)))]) (h1 := fun _ => [(b, .cells #[.int .i64 fm, .int .i64 to, .int .i64 sh, .int .i64 q, .int .i64 t, .slice (some (⟨g, 0, none⟩)) L.length cc] 86 (0, 0)), (nu1 0, .cells #[.int .i64 x.fm, .int .i64 x.to, .int .i64 x.shard, .int .i64 x.seq, .int .i64 x.time, .bool x.beat, .slice xa ((List.map eI x.c.when).length) xc, .int .i64 x.c.place, .slice ya ((List.map eOp x.c.ops).length) yc] 37 (0, 0)), (nu2 0, .cells #[.int .i64 x.fm, .int .i64 x.to, .int .i64 x.shard, .int .i64 x.seq, .int .i64 x.time, .bool x.beat, .slice u1 ((List.map eI x.c.when).length) d1, .int .i64 x.c.place, .slice u2 ((List.map eOp x.c.ops).length) d2] 37 (0, 0))]) (p1 := fun _ => [IntKind.i64.wrap (i + (1 : Int)) = i + (1 : Int)]) (W1 := []) (by kernel_rfl) (fun _ => by kernel_rfl) (fun _ => ⟨wrap_i64 (by omega) (by omega), trivial⟩) (fun _ => ?_)
    try simp only [List.cons_append, List.nil_append, List.append_nil]
    rw [take_snoc hi0 hx]
    refine J_backx ⟨i + 1, av1, k + 1, cv1⟩ [2, 3, 9, 10, 11] [0] [1, 0] [] ?_ ?_ (by kernel_rfl) rfl rfl rfl
    · exact ⟨by simp only; omega, by simp only; omega⟩
    · simp only
      omega
  · refine J_exit rfl ?_
    refine J_seq ?_
    refine J_reg mixed [.rd 0 [] 0 0, .rd 1 [] 0 0] [] [2] (E1 := fun _ => [(2, .val (.slice av k cv))]) (h1 := fun _ => [(b, .cells #[.int .i64 fm, .int .i64 to, .int .i64 sh, .int .i64 q, .int .i64 t, .slice a L.length cc] 86 (0, 0))]) (p1 := fun _ => []) (W1 := []) (by kernel_rfl) (fun _ => by kernel_rfl) (fun _ => trivial) (fun _ => ?_)
    refine J_return [[]] (.slice av k cv) (by kernel_rfl) (fun a w s => ?_)
    have e : List.take i.toNat L = L := List.take_of_length_le (by simp at hlt; omega)
    rw [e] at hk s
    rw [List.length_map] at hk
    subst hk
    have s2 := (s.stp (stp_freeze 1 rfl)).hide 0 rfl
    exact ⟨_, _, s2.ret (by simp) [1, 0] [0] rfl rfl⟩
end Go.Proofs.YtgelnbgjabpdbaaDoor
