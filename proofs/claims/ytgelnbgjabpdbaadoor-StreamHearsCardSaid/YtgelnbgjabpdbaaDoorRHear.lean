/- causewayref2: (*Receiver).Hear, of any message. -/
import Derived.Test.YtgelnbgjabpdbaaDoorCut
namespace Go.Proofs.YtgelnbgjabpdbaaDoor
open Go Go.Sx

structure ScanS where
  i : Int
  b : Bool
structure RefS where
  i : Int
  a : Option Addr
  k : Nat
  c : Nat
  out : List MsgT
  a2 : Option Addr
  c2 : Nat
  L : List MsgT
  q : Int
  t : Int
abbrev mCells (fm to sh q t : Int) (v : Value) : Obj := .cells #[.int .i64 fm, .int .i64 to, .int .i64 sh, .int .i64 q, .int .i64 t, v] 53 (0, 0)

set_option maxHeartbeats 2000000 in
theorem refLoop {w0 : World} {S : Nat → Prop} {M : List Nat} {b : Nat} {fm to sh q t : Int} {a : Option Addr} {n cc : Nat} {L : List MsgT} (hd : Dist L) (hn : n = L.length) (hq0 : 0 ≤ q) (hq1 : q + L.length ≤ 1000000) {Z : Nat} (hZ : 1000001 ≤ Z) :
    J Tryd.prog Tryd.f18 (retR Tryd.prog Tryd.f18 fun e w' => ∃ a' n' c' u1 n3 d1,
      Ret M w0 S w' e (.tuple #[.slice a' n' c', .int .i64 0]) [cObj b (mCells fm to sh (drainAll L q t).2.2.1 (drainAll L q t).2.2.2 (.slice u1 n3 d1)), cAcc (.slice u1 n3 d1) 55 9 ((drainAll L q t).2.1.map eMsg)]
        [(.slice a' n' c', .sl 9 ((drainAll L q t).1.map eMsg))]) Tryd.f18.ntmps
      [.c (.loop (.seq (.seq (.rg 20 false) (.cond (.tmp 106) .skip (.exit 2))) (.seq (.block 3 (.seq (.seq (.rg 22 true) (.cond (.tmp 122) (.exit 3) .skip)) (.seq (.rg 23 false) (.seq (.rg 24 false) (.seq (.rg 25 false) (.seq (.rg 26 false) (.seq (.rg 27 false) (.seq (.rg 28 false) (.seq (.rg 29 false) (.rg 30 false)))))))))) (.rg 21 false)))), .eb 2, .c (.seq (.rg 31 false) .ret)]
      [(0, .val (.pointer (some ⟨b, 0, none⟩))), (4, .val (.slice none 0 0)), (5, .val (.int .i64 0)), (9, .val (.slice none 0 0)), (10, .val (.int .i64 0))] [(b, mCells fm to sh q t (.slice a n cc))] [] [(M, w0)] ⟨newS S M w0, [cAcc (.slice a n cc) 55 9 (L.map eMsg)], []⟩ := by
  subst hn
  refine J_stp (stp_accm eMsg 55 9) ?_
  refine J_loopx (fun x : RefS => [(0, .val (.pointer (some (⟨b, 0, none⟩)))), (4, .val (.slice none 0 0)), (5, .val (.int .i64 0)), (9, .val (.slice x.a x.k x.c)), (10, .val (.int .i64 x.i))]) (fun x : RefS => [(b, mCells fm to sh x.q x.t (.slice x.a2 x.L.length x.c2))]) (fun x : RefS => [cAcc (.slice x.a2 x.L.length x.c2) 55 9 (x.L.map eMsg), cAcc (.slice x.a x.k x.c) 55 9 (x.out.map eMsg)]) (fun x : RefS => []) (fun x : RefS => (x.L.length * Z + (x.L.length - x.i).toNat)) (fun x : RefS => (0 ≤ x.i ∧ x.i ≤ x.L.length ∧ (∀ m ∈ x.L.take x.i.toNat, m.seq ≠ x.q + 1) ∧ Dist x.L ∧ 0 ≤ x.q ∧ x.q + x.L.length ≤ 1000000 ∧ x.out.length + x.L.length ≤ 1000000 ∧ drainAll L q t = (x.out ++ (drainAll x.L x.q x.t).1, (drainAll x.L x.q x.t).2))) ⟨0, none, 0, 0, [], a, cc, L, q, t⟩ [0, 4, 5, 9, 10] [0] [0, 1] [] ?_ (by kernel_rfl) rfl rfl rfl ?_
  · exact ⟨by simp, by simp, by simp, hd, hq0, hq1, by simp; omega, by simp⟩
  rintro ⟨i, a5, k5, c5, out, a6, c6, L5, q5, t5⟩ ⟨hi0, hi, hno, hd5, hq5, hb5, hlen5, hdr⟩
  dsimp only at hi0 hi hno hd5 hq5 hb5 hlen5 hdr ⊢
  refine J_stpx (stp_acclen 1 rfl) fun _ hk5 => ?_
  rw [List.length_map] at hk5
  refine J_seq ?_
  refine J_seq ?_
  refine J_reg mixed [.rd 0 [] 0 0, .rd 1 [] 0 0, .rd 2 [] 0 0, .rd 3 [] 0 0, .rd 4 [.o 0 none] 0 0, .rd 5 [] 0 0, .rd 6 [] 0 0] [] [0, 4, 5, 9, 10, 106] (E1 := fun _ => [(0, .val (.pointer (some (⟨b, 0, none⟩)))), (4, .val (.slice none 0 0)), (5, .val (.int .i64 0)), (9, .val (.slice a5 k5 c5)), (10, .val (.int .i64 i)), (106, .val (.bool (decide (i < (↑L5.length : Int)))))]) (h1 := fun _ => [(b, .cells #[.int .i64 fm, .int .i64 to, .int .i64 sh, .int .i64 q5, .int .i64 t5, .slice a6 L5.length c6] 53 (0, 0))]) (p1 := fun _ => []) (W1 := []) (by kernel_rfl) (fun _ => by kernel_rfl) (fun _ => trivial) (fun _ => ?_)
  refine J_cond (t := decide (i < (↑L5.length : Int))) (by kernel_rfl) (by kernel_rfl) (fun hlt => ?_) (fun hlt => ?_)
  · have hlt2 : i < L5.length := by simpa using hlt
    obtain ⟨x, hx⟩ : ∃ x, L5[i.toNat]? = some x := ⟨_, List.getElem?_eq_getElem (by omega)⟩
    refine J_openacc 0 rfl (by intro h0; rw [List.map_eq_nil_iff] at h0; rw [h0] at hx; simp at hx) fun g cur xs hu _ _ hrow => ?_
    subst hu
    refine J_stpx (stp_readrows 1 rfl i.toNat (map_at hx)) fun ls hls => ?_
    obtain ⟨hls1, hls2⟩ := hls
    obtain ⟨⟨xa, xc⟩, ⟨ya, yc⟩, rfl⟩ : ∃ l0 l1, ls = [l0, l1] := len2 hls1
    have f := fun (j : Nat) v h => hrow.atx (hls2 j v h)
    have r0 : cur[0 + i.toNat * 9]? = some (.int .i64 x.fm) := by rw [Nat.zero_add]; exact f 0 _ rfl
    have r1 : cur[0 + i.toNat * 9 + 1]? = some (.int .i64 x.to) := by rw [Nat.zero_add]; exact f 1 _ rfl
    have r2 : cur[0 + i.toNat * 9 + 2]? = some (.int .i64 x.shard) := by rw [Nat.zero_add]; exact f 2 _ rfl
    have r3 : cur[0 + i.toNat * 9 + 3]? = some (.int .i64 x.seq) := by rw [Nat.zero_add]; exact f 3 _ rfl
    have r4 : cur[0 + i.toNat * 9 + 4]? = some (.int .i64 x.time) := by rw [Nat.zero_add]; exact f 4 _ rfl
    have r5 : cur[0 + i.toNat * 9 + 5]? = some (.bool x.beat) := by rw [Nat.zero_add]; exact f 5 _ rfl
    have r6 : cur[0 + i.toNat * 9 + 6]? = some (.slice xa (x.c.when.map eI).length xc) := by rw [Nat.zero_add]; exact f 6 _ rfl
    have r7 : cur[0 + i.toNat * 9 + 7]? = some (.int .i64 x.c.place) := by rw [Nat.zero_add]; exact f 7 _ rfl
    have r8 : cur[0 + i.toNat * 9 + 8]? = some (.slice ya (x.c.ops.map eOp).length yc) := by rw [Nat.zero_add]; exact f 8 _ rfl
    try simp only [List.cons_append, List.nil_append, List.append_nil]
    refine J_skip ?_
    try simp only [List.cons_append, List.nil_append, List.append_nil]
    refine J_seq ?_
    try simp only [List.cons_append, List.nil_append, List.append_nil]
    refine J_block ?_
    try simp only [List.cons_append, List.nil_append, List.append_nil]
    refine J_seq ?_
    try simp only [List.cons_append, List.nil_append, List.append_nil]
    refine J_seq ?_
    try simp only [List.cons_append, List.nil_append, List.append_nil]
    refine J_reg mixed [.rd 0 [] 0 0, .rd 1 [] 0 0, .rd 2 [] 0 0, .rd 3 [.o 0 none] 0 0, .rd 4 [] 0 0, .rd 5 [] 0 2, .rd 6 [] 0 0, .rd 7 [.o 1 (some (.int .i64 x.seq))] 0 0, .rd 8 [] 0 0, .rd 9 [] 0 0, .rd 10 [] 0 0, .rd 11 [.o 0 none] 0 0, .rd 12 [] 0 1, .rd 13 [] 0 0] [] [0, 4, 5, 9, 10, 122] (E1 := fun _ => [(0, .val (.pointer (some (⟨b, 0, none⟩)))), (4, .val (.slice none 0 0)), (5, .val (.int .i64 0)), (9, .val (.slice a5 k5 c5)), (10, .val (.int .i64 i)), (122, .val (.bool (x.seq != q5 + 1)))]) (h1 := fun _ => [(b, .cells #[.int .i64 fm, .int .i64 to, .int .i64 sh, .int .i64 q5, .int .i64 t5, .slice (some (⟨g, 0, none⟩)) L5.length c6] 53 (0, 0)), (g, .cells cur 55 (0, 0))]) (p1 := fun _ => [(0 : Int) ≤ i, i < (↑L5.length : Int), cur[(0 : Nat) + i.toNat * (9 : Nat) + (3 : Nat)]? = some (Value.int IntKind.i64 x.seq), IntKind.i64.wrap (q5 + (1 : Int)) = q5 + (1 : Int)]) (W1 := []) (by kernel_rfl) (fun _ => by kernel_rfl) (fun _ => ⟨hi0, hlt2, r3, wrap_i64 (by omega) (by omega), trivial⟩) (fun _ => ?_)
    try simp only [List.cons_append, List.nil_append, List.append_nil]
    refine J_cond (t := x.seq != q5 + 1) (by kernel_rfl) (by kernel_rfl) (fun hne => ?_) (fun hne => ?_)
    · refine J_hide 1 rfl ?_
      refine J_stp (stp_closeacc 2 1 rfl rfl hrow (by decide)) ?_
      rw [show (List.map eMsg L5).length = L5.length from List.length_map ..]
      try simp only [List.cons_append, List.nil_append, List.append_nil]
      refine J_exit rfl ?_
      try simp only [List.cons_append, List.nil_append, List.append_nil]
      refine J_reg mixed [.rd 0 [] 0 0, .rd 1 [] 0 1, .rd 2 [] 0 0] [] [0, 4, 5, 9, 10] (E1 := fun _ => [(0, .val (.pointer (some (⟨b, 0, none⟩)))), (4, .val (.slice none 0 0)), (5, .val (.int .i64 0)), (9, .val (.slice a5 k5 c5)), (10, .val (.int .i64 (i + 1)))]) (h1 := fun _ => [(b, .cells #[.int .i64 fm, .int .i64 to, .int .i64 sh, .int .i64 q5, .int .i64 t5, .slice (some (⟨g, 0, none⟩)) L5.length c6] 53 (0, 0))]) (p1 := fun _ => [IntKind.i64.wrap (i + (1 : Int)) = i + (1 : Int)]) (W1 := []) (by kernel_rfl) (fun _ => by kernel_rfl) (fun _ => ⟨wrap_i64 (by omega) (by omega), trivial⟩) (fun _ => ?_)
      try simp only [List.cons_append, List.nil_append, List.append_nil]
      refine J_backx ⟨i + 1, a5, k5, c5, out, _, c6, L5, q5, t5⟩ [0, 4, 5, 9, 10] [0] [1, 0] [] ?_ ?_ (by kernel_rfl) rfl rfl rfl
      · exact ⟨by simp only; omega, by simp only; omega, take_no hi0 hx (by simpa using hne) hno, hd5, hq5, hb5, hlen5, hdr⟩
      · simp only
        omega
    · have hxs : x.seq = q5 + 1 := by simpa using hne
      obtain ⟨hkp, htd⟩ := hit hx hxs hno
      have hdl := dropK_len hkp
      have hmz : L5.length * Z = (dropK L5 (q5 + 1)).length * Z + Z := by rw [← hdl, Nat.add_mul, Nat.one_mul]
      try simp only [List.cons_append, List.nil_append, List.append_nil]
      refine J_skip ?_
      try simp only [List.cons_append, List.nil_append, List.append_nil]
      refine J_seq ?_
      try simp only [List.cons_append, List.nil_append, List.append_nil]
      refine J_reg mixed [.rd 0 [] 0 0, .rd 1 [] 0 0, .rd 2 [] 0 0, .rd 3 [.o 0 none] 0 0, .rd 4 [] 0 0, .rd 5 [] 0 2, .rd 6 [.o 1 (some (.int .i64 x.fm)), .o 1 (some (.int .i64 x.to)), .o 1 (some (.int .i64 x.shard)), .o 1 (some (.int .i64 x.seq)), .o 1 (some (.int .i64 x.time)), .o 1 (some (.bool x.beat)), .o 1 (some (.slice xa ((List.map eI x.c.when).length) xc)), .o 1 (some (.int .i64 x.c.place)), .o 1 (some (.slice ya ((List.map eOp x.c.ops).length) yc))] 0 0, .wr 7 [] 0, .wr 8 [.o 2 none, .o 2 none, .o 2 none, .o 2 none, .o 2 none, .o 2 none, .o 2 none, .o 2 none, .o 2 none] 0] [(8, [])] [0, 4, 5, 9, 10, 11] (E1 := fun nu1 => [(0, .val (.pointer (some (⟨b, 0, none⟩)))), (4, .val (.slice none 0 0)), (5, .val (.int .i64 0)), (9, .val (.slice a5 k5 c5)), (10, .val (.int .i64 i)), (11, .val (.pointer (some (⟨nu1 0, 0, none⟩))))]) (h1 := fun nu1 => [(b, .cells #[.int .i64 fm, .int .i64 to, .int .i64 sh, .int .i64 q5, .int .i64 t5, .slice (some (⟨g, 0, none⟩)) L5.length c6] 53 (0, 0)), (g, .cells cur 55 (0, 0)), (nu1 0, .cells #[.int .i64 x.fm, .int .i64 x.to, .int .i64 x.shard, .int .i64 x.seq, .int .i64 x.time, .bool x.beat, .slice xa ((List.map eI x.c.when).length) xc, .int .i64 x.c.place, .slice ya ((List.map eOp x.c.ops).length) yc] 55 (0, 0))]) (p1 := fun nu1 => [(0 : Int) ≤ i, i < (↑L5.length : Int), cur[(0 : Nat) + i.toNat * (9 : Nat)]? = some (Value.int IntKind.i64 x.fm), cur[(0 : Nat) + i.toNat * (9 : Nat) + (1 : Nat)]? = some (Value.int IntKind.i64 x.to), cur[(0 : Nat) + i.toNat * (9 : Nat) + (2 : Nat)]? = some (Value.int IntKind.i64 x.shard), cur[(0 : Nat) + i.toNat * (9 : Nat) + (3 : Nat)]? = some (Value.int IntKind.i64 x.seq), cur[(0 : Nat) + i.toNat * (9 : Nat) + (4 : Nat)]? = some (Value.int IntKind.i64 x.time), cur[(0 : Nat) + i.toNat * (9 : Nat) + (5 : Nat)]? = some (Value.bool x.beat), cur[(0 : Nat) + i.toNat * (9 : Nat) + (6 : Nat)]? = some (Value.slice xa (List.map eI x.c.when).length xc), cur[(0 : Nat) + i.toNat * (9 : Nat) + (7 : Nat)]? = some (Value.int IntKind.i64 x.c.place), cur[(0 : Nat) + i.toNat * (9 : Nat) + (8 : Nat)]? = some (Value.slice ya (List.map eOp x.c.ops).length yc)]) (W1 := []) (by kernel_rfl) (fun _ => by kernel_rfl) (fun _ => ⟨hi0, hlt2, r0, r1, r2, r3, r4, r5, r6, r7, r8, trivial⟩) (fun nu1 => ?_)
      try simp only [List.cons_append, List.nil_append, List.append_nil]
      refine J_seq ?_
      try simp only [List.cons_append, List.nil_append, List.append_nil]
      refine JR_begin mixed [(0, true), (1, true), (2, false), (3, false), (4, true)] [] (by kernel_rfl) (by kernel_rfl) ?_
      refine JR_run (id := 24) (rest := [(3, false), (4, true)]) [.rd 0 [] 0 0, .rd 1 [.o 2 none, .o 2 none, .o 2 none, .o 2 none, .o 2 none, .o 2 none, .o 2 none, .o 2 none, .o 2 none] 0 0, .wr 2 [] 0] [0, 4, 5, 9, 10, 11, 130, 132] (E1 := fun nu2 => [(0, .val (.pointer (some (⟨b, 0, none⟩)))), (4, .val (.slice none 0 0)), (5, .val (.int .i64 0)), (9, .val (.slice a5 k5 c5)), (10, .val (.int .i64 i)), (11, .val (.pointer (some (⟨nu1 0, 0, none⟩)))), (130, .val (.slice a5 k5 c5)), (132, .val (.slice (some (⟨nu2 0, 0, none⟩)) 1 1))]) (h1 := fun nu2 => [(b, .cells #[.int .i64 fm, .int .i64 to, .int .i64 sh, .int .i64 q5, .int .i64 t5, .slice (some (⟨g, 0, none⟩)) L5.length c6] 53 (0, 0)), (g, .cells cur 55 (0, 0)), (nu1 0, .cells #[.int .i64 x.fm, .int .i64 x.to, .int .i64 x.shard, .int .i64 x.seq, .int .i64 x.time, .bool x.beat, .slice xa ((List.map eI x.c.when).length) xc, .int .i64 x.c.place, .slice ya ((List.map eOp x.c.ops).length) yc] 55 (0, 0)), (nu2 0, .cells #[.int .i64 x.fm, .int .i64 x.to, .int .i64 x.shard, .int .i64 x.seq, .int .i64 x.time, .bool x.beat, .slice xa ((List.map eI x.c.when).length) xc, .int .i64 x.c.place, .slice ya ((List.map eOp x.c.ops).length) yc] 55 (0, 0))]) (p1 := fun nu2 => []) (W1 := []) (fun _ => by kernel_rfl) (fun _ => trivial) (fun nu2 => ?_)
      refine JR_appm 0 48 55 9 104 (.agg #[.int .i64 0, .int .i64 0, .int .i64 0, .int .i64 0, .int .i64 0, .bool false, .slice none 0 0, .int .i64 0, .slice none 0 0]) (a0 := a5) (len := k5) (cap0 := c5) (ax := (some (⟨nu2 0, 0, none⟩))) (m := 1) (c := 1) (dst := (some 133)) [x] (by kernel_rfl) (by kernel_rfl) (by kernel_rfl) (by kernel_rfl) rfl (by decide) rfl (fun _ _ _ s => src_one s 3 rfl rfl ⟨.inl ⟨rfl, rfl⟩, ⟨.inl ⟨rfl, rfl⟩, ⟨.inl ⟨rfl, rfl⟩, ⟨.inl ⟨rfl, rfl⟩, ⟨.inl ⟨rfl, rfl⟩, ⟨.inl ⟨rfl, rfl⟩, ⟨.inr (.inl (List.mem_of_getElem? (i := 0) rfl)), ⟨.inl ⟨rfl, rfl⟩, ⟨.inr (.inl (List.mem_of_getElem? (i := 1) rfl)), trivial⟩⟩⟩⟩⟩⟩⟩⟩⟩) (by simp only [maxLen]; omega) (by omega) (fun av1 cv1 => ?_)
      try simp only [List.cons_append, List.nil_append, List.append_nil]
      refine JR_run (id := 24) (rest := []) [.rd 4 [] 0 0] [0, 4, 5, 9, 10, 11] (E1 := fun _ => [(0, .val (.pointer (some (⟨b, 0, none⟩)))), (4, .val (.slice none 0 0)), (5, .val (.int .i64 0)), (9, .val (.slice av1 (k5 + 1) cv1)), (10, .val (.int .i64 i)), (11, .val (.pointer (some (⟨nu1 0, 0, none⟩))))]) (h1 := fun _ => [(b, .cells #[.int .i64 fm, .int .i64 to, .int .i64 sh, .int .i64 q5, .int .i64 t5, .slice (some (⟨g, 0, none⟩)) L5.length c6] 53 (0, 0)), (g, .cells cur 55 (0, 0)), (nu1 0, .cells #[.int .i64 x.fm, .int .i64 x.to, .int .i64 x.shard, .int .i64 x.seq, .int .i64 x.time, .bool x.beat, .slice xa ((List.map eI x.c.when).length) xc, .int .i64 x.c.place, .slice ya ((List.map eOp x.c.ops).length) yc] 55 (0, 0)), (nu2 0, .cells #[.int .i64 x.fm, .int .i64 x.to, .int .i64 x.shard, .int .i64 x.seq, .int .i64 x.time, .bool x.beat, .slice xa ((List.map eI x.c.when).length) xc, .int .i64 x.c.place, .slice ya ((List.map eOp x.c.ops).length) yc] 55 (0, 0))]) (p1 := fun _ => []) (W1 := []) (fun _ => by kernel_rfl) (fun _ => trivial) (fun _ => ?_)
      try simp only [List.cons_append, List.nil_append, List.append_nil]
      refine JR_end ?_
      try simp only [List.cons_append, List.nil_append, List.append_nil]
      refine J_seq ?_
      try simp only [List.cons_append, List.nil_append, List.append_nil]
      refine J_reg mixed [.rd 0 [] 0 0, .rd 1 [] 0 0, .rd 2 [.o 2 none] 0 0, .rd 3 [] 0 0, .rd 4 [] 0 0, .wr 5 [.o 0 none] 0] [(5, [0])] [0, 4, 5, 9, 10, 11] (E1 := fun _ => [(0, .val (.pointer (some (⟨b, 0, none⟩)))), (4, .val (.slice none 0 0)), (5, .val (.int .i64 0)), (9, .val (.slice av1 (k5 + 1) cv1)), (10, .val (.int .i64 i)), (11, .val (.pointer (some (⟨nu1 0, 0, none⟩))))]) (h1 := fun _ => [(b, .cells #[.int .i64 fm, .int .i64 to, .int .i64 sh, .int .i64 x.seq, .int .i64 t5, .slice (some (⟨g, 0, none⟩)) L5.length c6] 53 (0, 0)), (g, .cells cur 55 (0, 0)), (nu1 0, .cells #[.int .i64 x.fm, .int .i64 x.to, .int .i64 x.shard, .int .i64 x.seq, .int .i64 x.time, .bool x.beat, .slice xa ((List.map eI x.c.when).length) xc, .int .i64 x.c.place, .slice ya ((List.map eOp x.c.ops).length) yc] 55 (0, 0)), (nu2 0, .cells #[.int .i64 x.fm, .int .i64 x.to, .int .i64 x.shard, .int .i64 x.seq, .int .i64 x.time, .bool x.beat, .slice xa ((List.map eI x.c.when).length) xc, .int .i64 x.c.place, .slice ya ((List.map eOp x.c.ops).length) yc] 55 (0, 0))]) (p1 := fun _ => []) (W1 := []) (by kernel_rfl) (fun _ => by kernel_rfl) (fun _ => trivial) (fun _ => ?_)
      try simp only [List.cons_append, List.nil_append, List.append_nil]
      refine J_seq ?_
      try simp only [List.cons_append, List.nil_append, List.append_nil]
      refine J_hide 1 rfl ?_
      refine J_stp (stp_closeacc 2 0 rfl rfl hrow (by decide)) ?_
      rw [show (List.map eMsg L5).length = L5.length from List.length_map ..]
      refine J_stp (stp_freeze 1 rfl) ?_
      have hle : L5.length ≤ c6 := by have := hrow.le; rwa [List.length_map] at this
      refine J_stp (stp_fact (v := .slice (some ⟨g, 0, none⟩) i.toNat c6) (d := .sl 9 ((L5.take i.toNat).map eMsg)) fun w S H => by
        have h := H (.slice (some ⟨g, 0, none⟩) L5.length c6, .sl 9 (L5.map eMsg)) (List.mem_of_getElem? (i := 2) rfl)
        rw [List.map_take]
        exact h.take (by omega) hle) ?_
      refine J_stp (stp_accm eMsg 55 9) ?_
      refine J_norm (C' := [cAcc (.slice av1 (k5 + 1) cv1) 55 9 (List.map eMsg (out ++ [x])), cAcc (.slice none 0 0) 55 9 (List.map eMsg [])]) (G' := [(.slice (xa, xc).fst ((List.map eI x.c.when).length) xc, (D.sl 1 (List.map eI x.c.when))), (.slice (ya, yc).fst ((List.map eOp x.c.ops).length) yc, (D.sl 7 (List.map eOp x.c.ops))), (.slice (some (⟨g, 0, none⟩)) L5.length c6, (D.sl 9 (List.map eMsg L5))), (.slice (some (⟨g, 0, none⟩)) i.toNat c6, (D.sl 9 (List.map eMsg (List.take i.toNat L5))))]) (by kernel_rfl) (by kernel_rfl) ?_
      refine J_reg mixed [.rd 0 [] 0 0, .rd 1 [] 0 0, .rd 2 [.o 1 none] 0 0, .rd 3 [] 0 0, .rd 4 [] 0 0, .wr 5 [.o 0 none] 0] [(5, [0])] [0, 4, 5, 9, 10, 11] (E1 := fun _ => [(0, .val (.pointer (some (⟨b, 0, none⟩)))), (4, .val (.slice none 0 0)), (5, .val (.int .i64 0)), (9, .val (.slice av1 (k5 + 1) cv1)), (10, .val (.int .i64 i)), (11, .val (.pointer (some (⟨nu1 0, 0, none⟩))))]) (h1 := fun _ => [(b, .cells #[.int .i64 fm, .int .i64 to, .int .i64 sh, .int .i64 x.seq, .int .i64 x.time, .slice (some (⟨g, 0, none⟩)) L5.length c6] 53 (0, 0)), (nu1 0, .cells #[.int .i64 x.fm, .int .i64 x.to, .int .i64 x.shard, .int .i64 x.seq, .int .i64 x.time, .bool x.beat, .slice xa ((List.map eI x.c.when).length) xc, .int .i64 x.c.place, .slice ya ((List.map eOp x.c.ops).length) yc] 55 (0, 0)), (nu2 0, .cells #[.int .i64 x.fm, .int .i64 x.to, .int .i64 x.shard, .int .i64 x.seq, .int .i64 x.time, .bool x.beat, .slice xa ((List.map eI x.c.when).length) xc, .int .i64 x.c.place, .slice ya ((List.map eOp x.c.ops).length) yc] 55 (0, 0))]) (p1 := fun _ => []) (W1 := []) (by kernel_rfl) (fun _ => by kernel_rfl) (fun _ => trivial) (fun _ => ?_)
      refine J_seq ?_
      refine J_reg mixed [.rd 0 [] 0 0] [] [0, 4, 5, 9, 10, 11, 12] (E1 := fun _ => [(0, .val (.pointer (some (⟨b, 0, none⟩)))), (4, .val (.slice none 0 0)), (5, .val (.int .i64 0)), (9, .val (.slice av1 (k5 + 1) cv1)), (10, .val (.int .i64 i)), (11, .val (.pointer (some (⟨nu1 0, 0, none⟩)))), (12, .val (.slice none 0 0))]) (h1 := fun _ => [(b, .cells #[.int .i64 fm, .int .i64 to, .int .i64 sh, .int .i64 x.seq, .int .i64 x.time, .slice (some (⟨g, 0, none⟩)) L5.length c6] 53 (0, 0)), (nu1 0, .cells #[.int .i64 x.fm, .int .i64 x.to, .int .i64 x.shard, .int .i64 x.seq, .int .i64 x.time, .bool x.beat, .slice xa ((List.map eI x.c.when).length) xc, .int .i64 x.c.place, .slice ya ((List.map eOp x.c.ops).length) yc] 55 (0, 0)), (nu2 0, .cells #[.int .i64 x.fm, .int .i64 x.to, .int .i64 x.shard, .int .i64 x.seq, .int .i64 x.time, .bool x.beat, .slice xa ((List.map eI x.c.when).length) xc, .int .i64 x.c.place, .slice ya ((List.map eOp x.c.ops).length) yc] 55 (0, 0))]) (p1 := fun _ => []) (W1 := []) (by kernel_rfl) (fun _ => by kernel_rfl) (fun _ => trivial) (fun _ => ?_)
      refine J_seq ?_
      refine JR_begin mixed [(0, true), (1, true), (2, true), (3, true), (4, true), (5, true), (6, true), (7, false), (8, true)] [] (by kernel_rfl) (by kernel_rfl) ?_
      refine JR_run (id := 28) (rest := [(7, false), (8, true)]) [.rd 0 [] 0 0, .rd 1 [] 0 0, .rd 2 [] 0 0, .rd 3 [] 0 0, .rd 4 [.o 0 none] 0 0, .rd 5 [] 0 0, .rd 6 [] 0 4] [0, 4, 5, 9, 10, 11, 12, 144, 150] (E1 := fun _ => [(0, .val (.pointer (some (⟨b, 0, none⟩)))), (4, .val (.slice none 0 0)), (5, .val (.int .i64 0)), (9, .val (.slice av1 (k5 + 1) cv1)), (10, .val (.int .i64 i)), (11, .val (.pointer (some (⟨nu1 0, 0, none⟩)))), (12, .val (.slice none 0 0)), (144, .val (.slice none 0 0)), (150, .val (.slice (some (⟨g, 0, none⟩)) i.toNat c6))]) (h1 := fun _ => [(b, .cells #[.int .i64 fm, .int .i64 to, .int .i64 sh, .int .i64 x.seq, .int .i64 x.time, .slice (some (⟨g, 0, none⟩)) L5.length c6] 53 (0, 0)), (nu1 0, .cells #[.int .i64 x.fm, .int .i64 x.to, .int .i64 x.shard, .int .i64 x.seq, .int .i64 x.time, .bool x.beat, .slice xa ((List.map eI x.c.when).length) xc, .int .i64 x.c.place, .slice ya ((List.map eOp x.c.ops).length) yc] 55 (0, 0)), (nu2 0, .cells #[.int .i64 x.fm, .int .i64 x.to, .int .i64 x.shard, .int .i64 x.seq, .int .i64 x.time, .bool x.beat, .slice xa ((List.map eI x.c.when).length) xc, .int .i64 x.c.place, .slice ya ((List.map eOp x.c.ops).length) yc] 55 (0, 0))]) (p1 := fun _ => [(0 : Int) ≤ i, i ≤ (↑c6 : Int)]) (W1 := []) (fun _ => by kernel_rfl) (fun _ => ⟨hi0, by omega, trivial⟩) (fun _ => ?_)
      refine JR_appm 1 48 55 9 104 (.agg #[.int .i64 0, .int .i64 0, .int .i64 0, .int .i64 0, .int .i64 0, .bool false, .slice none 0 0, .int .i64 0, .slice none 0 0]) (a0 := none) (len := 0) (cap0 := 0) (ax := (some (⟨g, 0, none⟩))) (m := i.toNat) (c := c6) (dst := (some 151)) (List.take i.toNat L5) (by kernel_rfl) (by kernel_rfl) (by kernel_rfl) (by kernel_rfl) rfl (by decide) rfl (fun _ _ _ s => src_fact s 3 rfl (by decide)) (by simp only [maxLen]; omega) (by omega) (fun av2 cv2 => ?_)
      rw [Nat.zero_add]
      try simp only [List.cons_append, List.nil_append, List.append_nil]
      refine JR_run (id := 28) (rest := []) [.rd 8 [] 0 0] [0, 4, 5, 9, 10, 11, 12] (E1 := fun _ => [(0, .val (.pointer (some (⟨b, 0, none⟩)))), (4, .val (.slice none 0 0)), (5, .val (.int .i64 0)), (9, .val (.slice av1 (k5 + 1) cv1)), (10, .val (.int .i64 i)), (11, .val (.pointer (some (⟨nu1 0, 0, none⟩)))), (12, .val (.slice av2 i.toNat cv2))]) (h1 := fun _ => [(b, .cells #[.int .i64 fm, .int .i64 to, .int .i64 sh, .int .i64 x.seq, .int .i64 x.time, .slice (some (⟨g, 0, none⟩)) L5.length c6] 53 (0, 0)), (nu1 0, .cells #[.int .i64 x.fm, .int .i64 x.to, .int .i64 x.shard, .int .i64 x.seq, .int .i64 x.time, .bool x.beat, .slice xa ((List.map eI x.c.when).length) xc, .int .i64 x.c.place, .slice ya ((List.map eOp x.c.ops).length) yc] 55 (0, 0)), (nu2 0, .cells #[.int .i64 x.fm, .int .i64 x.to, .int .i64 x.shard, .int .i64 x.seq, .int .i64 x.time, .bool x.beat, .slice xa ((List.map eI x.c.when).length) xc, .int .i64 x.c.place, .slice ya ((List.map eOp x.c.ops).length) yc] 55 (0, 0))]) (p1 := fun _ => []) (W1 := []) (fun _ => by kernel_rfl) (fun _ => trivial) (fun _ => ?_)
      try simp only [List.cons_append, List.nil_append, List.append_nil]
      refine JR_end ?_
      try simp only [List.cons_append, List.nil_append, List.append_nil]
      refine J_seq ?_
      try simp only [List.cons_append, List.nil_append, List.append_nil]
      refine J_norm (C' := [cAcc (.slice av1 (k5 + 1) cv1) 55 9 (List.map eMsg (out ++ [x])), cAcc (.slice av2 i.toNat cv2) 55 9 (List.map eMsg (List.take i.toNat L5))]) (G' := [(.slice xa ((List.map eI x.c.when).length) xc, (D.sl 1 (List.map eI x.c.when))), (.slice ya ((List.map eOp x.c.ops).length) yc, (D.sl 7 (List.map eOp x.c.ops))), (.slice (some (⟨g, 0, none⟩)) L5.length c6, (D.sl 9 (List.map eMsg L5))), (.slice (some (⟨g, 0, none⟩)) i.toNat c6, (D.sl 9 (List.map eMsg (List.take i.toNat L5))))]) (by kernel_rfl) (by kernel_rfl) ?_
      by_cases hcap : i + 1 = c6
      · have hdrop : L5.drop (i.toNat + 1) = [] := List.drop_eq_nil_of_le (by omega)
        refine J_stp (stp_fact (v := .slice (some ⟨g, 0, none⟩) 0 0) (d := .sl 9 (([] : List MsgT).map eMsg)) fun w S H => .nil) ?_
        try simp only [List.cons_append, List.nil_append, List.append_nil]
        refine JR_begin mixed [(0, true), (1, true), (2, true), (3, true), (4, true), (5, true), (6, true), (7, true), (8, true), (9, false), (10, true), (11, true), (12, false)] [] (by kernel_rfl) (by kernel_rfl) ?_
        refine JR_run (id := 29) (rest := [(9, false), (10, true), (11, true), (12, false)]) [.rd 0 [] 0 0, .rd 1 [] 0 0, .rd 2 [] 0 0, .rd 3 [] 0 0, .rd 4 [] 0 0, .rd 5 [.o 0 none] 0 0, .rd 6 [] 0 0, .rd 7 [] 0 1, .rd 8 [] 0 5] [0, 4, 5, 9, 10, 11, 12, 152, 153, 160] (E1 := fun _ => [(0, .val (.pointer (some (⟨b, 0, none⟩)))), (4, .val (.slice none 0 0)), (5, .val (.int .i64 0)), (9, .val (.slice av1 (k5 + 1) cv1)), (10, .val (.int .i64 i)), (11, .val (.pointer (some (⟨nu1 0, 0, none⟩)))), (12, .val (.slice av2 i.toNat cv2)), (152, .val (.pointer (some (⟨b, 0, none⟩)))), (153, .val (.slice av2 i.toNat cv2)), (160, .val (.slice (some (⟨g, 0, none⟩)) 0 0))]) (h1 := fun _ => [(b, .cells #[.int .i64 fm, .int .i64 to, .int .i64 sh, .int .i64 x.seq, .int .i64 x.time, .slice (some (⟨g, 0, none⟩)) L5.length c6] 53 (0, 0)), (nu1 0, .cells #[.int .i64 x.fm, .int .i64 x.to, .int .i64 x.shard, .int .i64 x.seq, .int .i64 x.time, .bool x.beat, .slice xa ((List.map eI x.c.when).length) xc, .int .i64 x.c.place, .slice ya ((List.map eOp x.c.ops).length) yc] 55 (0, 0)), (nu2 0, .cells #[.int .i64 x.fm, .int .i64 x.to, .int .i64 x.shard, .int .i64 x.seq, .int .i64 x.time, .bool x.beat, .slice xa ((List.map eI x.c.when).length) xc, .int .i64 x.c.place, .slice ya ((List.map eOp x.c.ops).length) yc] 55 (0, 0))]) (p1 := fun _ => [IntKind.i64.wrap (i + (1 : Int)) = i + (1 : Int), i + (1 : Int) = (↑c6 : Int), L5.length = c6]) (W1 := []) (fun _ => by kernel_rfl) (fun _ => ⟨wrap_i64 (by omega) (by omega), hcap, by omega, trivial⟩) (fun _ => ?_)
        refine JR_appm 1 48 55 9 104 (.agg #[.int .i64 0, .int .i64 0, .int .i64 0, .int .i64 0, .int .i64 0, .bool false, .slice none 0 0, .int .i64 0, .slice none 0 0]) (a0 := av2) (len := i.toNat) (cap0 := cv2) (ax := (some (⟨g, 0, none⟩))) (m := 0) (c := 0) (dst := (some 161)) [] (by kernel_rfl) (by kernel_rfl) (by kernel_rfl) (by kernel_rfl) rfl (by decide) rfl (fun _ _ _ s => src_fact s 4 rfl (by decide)) (by simp only [maxLen]; omega) (by omega) (fun av3 cv3 => ?_)
        try simp only [List.cons_append, List.nil_append, List.append_nil]
        refine JR_run (id := 29) (rest := []) [.rd 10 [] 0 0, .rd 11 [] 0 0, .wr 12 [.o 0 none] 0] [0, 4, 5, 9, 10, 11, 12] (E1 := fun _ => [(0, .val (.pointer (some (⟨b, 0, none⟩)))), (4, .val (.slice none 0 0)), (5, .val (.int .i64 0)), (9, .val (.slice av1 (k5 + 1) cv1)), (10, .val (.int .i64 i)), (11, .val (.pointer (some (⟨nu1 0, 0, none⟩)))), (12, .val (.slice av2 i.toNat cv2))]) (h1 := fun _ => [(b, .cells #[.int .i64 fm, .int .i64 to, .int .i64 sh, .int .i64 x.seq, .int .i64 x.time, .slice av3 i.toNat cv3] 53 (0, 0)), (nu1 0, .cells #[.int .i64 x.fm, .int .i64 x.to, .int .i64 x.shard, .int .i64 x.seq, .int .i64 x.time, .bool x.beat, .slice xa ((List.map eI x.c.when).length) xc, .int .i64 x.c.place, .slice ya ((List.map eOp x.c.ops).length) yc] 55 (0, 0)), (nu2 0, .cells #[.int .i64 x.fm, .int .i64 x.to, .int .i64 x.shard, .int .i64 x.seq, .int .i64 x.time, .bool x.beat, .slice xa ((List.map eI x.c.when).length) xc, .int .i64 x.c.place, .slice ya ((List.map eOp x.c.ops).length) yc] 55 (0, 0))]) (p1 := fun _ => []) (W1 := []) (fun _ => by kernel_rfl) (fun _ => trivial) (fun _ => ?_)
        try simp only [List.cons_append, List.nil_append, List.append_nil]
        refine JR_end ?_
        try simp only [List.cons_append, List.nil_append, List.append_nil]
        refine J_reg mixed [.rd 0 [] 0 0] [] [0, 4, 5, 9, 10, 11, 12] (E1 := fun _ => [(0, .val (.pointer (some (⟨b, 0, none⟩)))), (4, .val (.slice none 0 0)), (5, .val (.int .i64 0)), (9, .val (.slice av1 (k5 + 1) cv1)), (10, .val (.int .i64 (-1))), (11, .val (.pointer (some (⟨nu1 0, 0, none⟩)))), (12, .val (.slice av2 i.toNat cv2))]) (h1 := fun _ => [(b, .cells #[.int .i64 fm, .int .i64 to, .int .i64 sh, .int .i64 x.seq, .int .i64 x.time, .slice av3 i.toNat cv3] 53 (0, 0)), (nu1 0, .cells #[.int .i64 x.fm, .int .i64 x.to, .int .i64 x.shard, .int .i64 x.seq, .int .i64 x.time, .bool x.beat, .slice xa ((List.map eI x.c.when).length) xc, .int .i64 x.c.place, .slice ya ((List.map eOp x.c.ops).length) yc] 55 (0, 0)), (nu2 0, .cells #[.int .i64 x.fm, .int .i64 x.to, .int .i64 x.shard, .int .i64 x.seq, .int .i64 x.time, .bool x.beat, .slice xa ((List.map eI x.c.when).length) xc, .int .i64 x.c.place, .slice ya ((List.map eOp x.c.ops).length) yc] 55 (0, 0))]) (p1 := fun _ => []) (W1 := []) (by kernel_rfl) (fun _ => by kernel_rfl) (fun _ => trivial) (fun _ => ?_)
        try simp only [List.cons_append, List.nil_append, List.append_nil]
        refine J_eb ?_
        try simp only [List.cons_append, List.nil_append, List.append_nil]
        refine J_reg mixed [.rd 0 [] 0 0, .rd 1 [] 0 0, .rd 2 [] 0 0] [] [0, 4, 5, 9, 10, 11, 12] (E1 := fun _ => [(0, .val (.pointer (some (⟨b, 0, none⟩)))), (4, .val (.slice none 0 0)), (5, .val (.int .i64 0)), (9, .val (.slice av1 (k5 + 1) cv1)), (10, .val (.int .i64 0)), (11, .val (.pointer (some (⟨nu1 0, 0, none⟩)))), (12, .val (.slice av2 i.toNat cv2))]) (h1 := fun _ => [(b, .cells #[.int .i64 fm, .int .i64 to, .int .i64 sh, .int .i64 x.seq, .int .i64 x.time, .slice av3 i.toNat cv3] 53 (0, 0)), (nu1 0, .cells #[.int .i64 x.fm, .int .i64 x.to, .int .i64 x.shard, .int .i64 x.seq, .int .i64 x.time, .bool x.beat, .slice xa ((List.map eI x.c.when).length) xc, .int .i64 x.c.place, .slice ya ((List.map eOp x.c.ops).length) yc] 55 (0, 0)), (nu2 0, .cells #[.int .i64 x.fm, .int .i64 x.to, .int .i64 x.shard, .int .i64 x.seq, .int .i64 x.time, .bool x.beat, .slice xa ((List.map eI x.c.when).length) xc, .int .i64 x.c.place, .slice ya ((List.map eOp x.c.ops).length) yc] 55 (0, 0))]) (p1 := fun _ => []) (W1 := []) (by kernel_rfl) (fun _ => by kernel_rfl) (fun _ => trivial) (fun _ => ?_)
        try simp only [List.cons_append, List.nil_append, List.append_nil]
        refine J_norm (C' := [cAcc (.slice av1 (k5 + 1) cv1) 55 9 (List.map eMsg (out ++ [x])), cAcc (.slice av3 i.toNat cv3) 55 9 (List.map eMsg (List.take i.toNat L5))]) (G' := [(.slice xa ((List.map eI x.c.when).length) xc, (D.sl 1 (List.map eI x.c.when))), (.slice ya ((List.map eOp x.c.ops).length) yc, (D.sl 7 (List.map eOp x.c.ops))), (.slice (some (⟨g, 0, none⟩)) L5.length c6, (D.sl 9 (List.map eMsg L5))), (.slice (some (⟨g, 0, none⟩)) i.toNat c6, (D.sl 9 (List.map eMsg (List.take i.toNat L5)))), (.slice (some (⟨g, 0, none⟩)) 0 0, (D.sl 9 (List.map eMsg [])))]) (by kernel_rfl) (by kernel_rfl) ?_
        rw [show List.take i.toNat L5 = dropK L5 (q5 + 1) by rw [← htd, hdrop, List.append_nil], show i.toNat = (dropK L5 (q5 + 1)).length by omega]
        refine J_backx ⟨0, av1, k5 + 1, cv1, out ++ [x], av3, cv3, dropK L5 (q5 + 1), x.seq, x.time⟩ [0, 4, 5, 9, 10] [0] [1, 0] [] ?_ ?_ (by kernel_rfl) rfl rfl rfl
        · exact ⟨by simp, by simp, by simp, hd5.drop _, by rw [hxs]; simp only; omega, by rw [hxs]; simp only; omega, by simp; omega, by rw [hdr, drain_some hkp, hxs]; simp⟩
        · simp only
          omega
      · have hcap2 : i + 1 < c6 := by omega
        refine J_stp (stp_fact (v := .slice (some ⟨g, 0 + (i + 1).toNat * 9, none⟩) (L5.length - (i + 1).toNat) (c6 - (i + 1).toNat)) (d := .sl 9 ((L5.drop (i.toNat + 1)).map eMsg)) fun w S H => by
          have h := H (.slice (some ⟨g, 0, none⟩) L5.length c6, .sl 9 (L5.map eMsg)) (List.mem_of_getElem? (i := 2) rfl)
          rw [List.map_drop, show i.toNat + 1 = (i + 1).toNat by omega]
          exact h.drop (by omega) (by omega)) ?_
        try simp only [List.cons_append, List.nil_append, List.append_nil]
        refine JR_begin mixed [(0, true), (1, true), (2, true), (3, true), (4, true), (5, true), (6, true), (7, true), (8, true), (9, false), (10, true), (11, true), (12, false)] [] (by kernel_rfl) (by kernel_rfl) ?_
        refine JR_run (id := 29) (rest := [(9, false), (10, true), (11, true), (12, false)]) [.rd 0 [] 0 0, .rd 1 [] 0 0, .rd 2 [] 0 0, .rd 3 [] 0 0, .rd 4 [] 0 0, .rd 5 [.o 0 none] 0 0, .rd 6 [] 0 0, .rd 7 [] 0 1, .rd 8 [] 0 4] [0, 4, 5, 9, 10, 11, 12, 152, 153, 160] (E1 := fun _ => [(0, .val (.pointer (some (⟨b, 0, none⟩)))), (4, .val (.slice none 0 0)), (5, .val (.int .i64 0)), (9, .val (.slice av1 (k5 + 1) cv1)), (10, .val (.int .i64 i)), (11, .val (.pointer (some (⟨nu1 0, 0, none⟩)))), (12, .val (.slice av2 i.toNat cv2)), (152, .val (.pointer (some (⟨b, 0, none⟩)))), (153, .val (.slice av2 i.toNat cv2)), (160, .val (.slice (some (⟨g, 0 + (i + 1).toNat * 9, none⟩)) (L5.length - (i + 1).toNat) (c6 - (i + 1).toNat)))]) (h1 := fun _ => [(b, .cells #[.int .i64 fm, .int .i64 to, .int .i64 sh, .int .i64 x.seq, .int .i64 x.time, .slice (some (⟨g, 0, none⟩)) L5.length c6] 53 (0, 0)), (nu1 0, .cells #[.int .i64 x.fm, .int .i64 x.to, .int .i64 x.shard, .int .i64 x.seq, .int .i64 x.time, .bool x.beat, .slice xa ((List.map eI x.c.when).length) xc, .int .i64 x.c.place, .slice ya ((List.map eOp x.c.ops).length) yc] 55 (0, 0)), (nu2 0, .cells #[.int .i64 x.fm, .int .i64 x.to, .int .i64 x.shard, .int .i64 x.seq, .int .i64 x.time, .bool x.beat, .slice xa ((List.map eI x.c.when).length) xc, .int .i64 x.c.place, .slice ya ((List.map eOp x.c.ops).length) yc] 55 (0, 0))]) (p1 := fun _ => [IntKind.i64.wrap (i + (1 : Int)) = i + (1 : Int), (0 : Int) ≤ i + (1 : Int), i + (1 : Int) ≤ (↑L5.length : Int), i + (1 : Int) < (↑c6 : Int)]) (W1 := []) (fun _ => by kernel_rfl) (fun _ => ⟨wrap_i64 (by omega) (by omega), by omega, by omega, hcap2, trivial⟩) (fun _ => ?_)
        refine JR_appm 1 48 55 9 104 (.agg #[.int .i64 0, .int .i64 0, .int .i64 0, .int .i64 0, .int .i64 0, .bool false, .slice none 0 0, .int .i64 0, .slice none 0 0]) (a0 := av2) (len := i.toNat) (cap0 := cv2) (ax := (some (⟨g, 0 + (i + 1).toNat * 9, none⟩))) (m := L5.length - (i + 1).toNat) (c := c6 - (i + 1).toNat) (dst := (some 161)) (List.drop (i.toNat + 1) L5) (by kernel_rfl) (by kernel_rfl) (by kernel_rfl) (by kernel_rfl) rfl (by decide) rfl (fun _ _ _ s => src_fact s 4 rfl (by decide)) (by simp only [maxLen]; omega) (by omega) (fun av3 cv3 => ?_)
        try simp only [List.cons_append, List.nil_append, List.append_nil]
        refine JR_run (id := 29) (rest := []) [.rd 10 [] 0 0, .rd 11 [] 0 0, .wr 12 [.o 0 none] 0] [0, 4, 5, 9, 10, 11, 12] (E1 := fun _ => [(0, .val (.pointer (some (⟨b, 0, none⟩)))), (4, .val (.slice none 0 0)), (5, .val (.int .i64 0)), (9, .val (.slice av1 (k5 + 1) cv1)), (10, .val (.int .i64 i)), (11, .val (.pointer (some (⟨nu1 0, 0, none⟩)))), (12, .val (.slice av2 i.toNat cv2))]) (h1 := fun _ => [(b, .cells #[.int .i64 fm, .int .i64 to, .int .i64 sh, .int .i64 x.seq, .int .i64 x.time, .slice av3 (i.toNat + (L5.length - (i + 1).toNat)) cv3] 53 (0, 0)), (nu1 0, .cells #[.int .i64 x.fm, .int .i64 x.to, .int .i64 x.shard, .int .i64 x.seq, .int .i64 x.time, .bool x.beat, .slice xa ((List.map eI x.c.when).length) xc, .int .i64 x.c.place, .slice ya ((List.map eOp x.c.ops).length) yc] 55 (0, 0)), (nu2 0, .cells #[.int .i64 x.fm, .int .i64 x.to, .int .i64 x.shard, .int .i64 x.seq, .int .i64 x.time, .bool x.beat, .slice xa ((List.map eI x.c.when).length) xc, .int .i64 x.c.place, .slice ya ((List.map eOp x.c.ops).length) yc] 55 (0, 0))]) (p1 := fun _ => []) (W1 := []) (fun _ => by kernel_rfl) (fun _ => trivial) (fun _ => ?_)
        try simp only [List.cons_append, List.nil_append, List.append_nil]
        refine JR_end ?_
        try simp only [List.cons_append, List.nil_append, List.append_nil]
        refine J_reg mixed [.rd 0 [] 0 0] [] [0, 4, 5, 9, 10, 11, 12] (E1 := fun _ => [(0, .val (.pointer (some (⟨b, 0, none⟩)))), (4, .val (.slice none 0 0)), (5, .val (.int .i64 0)), (9, .val (.slice av1 (k5 + 1) cv1)), (10, .val (.int .i64 (-1))), (11, .val (.pointer (some (⟨nu1 0, 0, none⟩)))), (12, .val (.slice av2 i.toNat cv2))]) (h1 := fun _ => [(b, .cells #[.int .i64 fm, .int .i64 to, .int .i64 sh, .int .i64 x.seq, .int .i64 x.time, .slice av3 (i.toNat + (L5.length - (i + 1).toNat)) cv3] 53 (0, 0)), (nu1 0, .cells #[.int .i64 x.fm, .int .i64 x.to, .int .i64 x.shard, .int .i64 x.seq, .int .i64 x.time, .bool x.beat, .slice xa ((List.map eI x.c.when).length) xc, .int .i64 x.c.place, .slice ya ((List.map eOp x.c.ops).length) yc] 55 (0, 0)), (nu2 0, .cells #[.int .i64 x.fm, .int .i64 x.to, .int .i64 x.shard, .int .i64 x.seq, .int .i64 x.time, .bool x.beat, .slice xa ((List.map eI x.c.when).length) xc, .int .i64 x.c.place, .slice ya ((List.map eOp x.c.ops).length) yc] 55 (0, 0))]) (p1 := fun _ => []) (W1 := []) (by kernel_rfl) (fun _ => by kernel_rfl) (fun _ => trivial) (fun _ => ?_)
        try simp only [List.cons_append, List.nil_append, List.append_nil]
        refine J_eb ?_
        try simp only [List.cons_append, List.nil_append, List.append_nil]
        refine J_reg mixed [.rd 0 [] 0 0, .rd 1 [] 0 0, .rd 2 [] 0 0] [] [0, 4, 5, 9, 10, 11, 12] (E1 := fun _ => [(0, .val (.pointer (some (⟨b, 0, none⟩)))), (4, .val (.slice none 0 0)), (5, .val (.int .i64 0)), (9, .val (.slice av1 (k5 + 1) cv1)), (10, .val (.int .i64 0)), (11, .val (.pointer (some (⟨nu1 0, 0, none⟩)))), (12, .val (.slice av2 i.toNat cv2))]) (h1 := fun _ => [(b, .cells #[.int .i64 fm, .int .i64 to, .int .i64 sh, .int .i64 x.seq, .int .i64 x.time, .slice av3 (i.toNat + (L5.length - (i + 1).toNat)) cv3] 53 (0, 0)), (nu1 0, .cells #[.int .i64 x.fm, .int .i64 x.to, .int .i64 x.shard, .int .i64 x.seq, .int .i64 x.time, .bool x.beat, .slice xa ((List.map eI x.c.when).length) xc, .int .i64 x.c.place, .slice ya ((List.map eOp x.c.ops).length) yc] 55 (0, 0)), (nu2 0, .cells #[.int .i64 x.fm, .int .i64 x.to, .int .i64 x.shard, .int .i64 x.seq, .int .i64 x.time, .bool x.beat, .slice xa ((List.map eI x.c.when).length) xc, .int .i64 x.c.place, .slice ya ((List.map eOp x.c.ops).length) yc] 55 (0, 0))]) (p1 := fun _ => []) (W1 := []) (by kernel_rfl) (fun _ => by kernel_rfl) (fun _ => trivial) (fun _ => ?_)
        try simp only [List.cons_append, List.nil_append, List.append_nil]
        refine J_norm (C' := [cAcc (.slice av1 (k5 + 1) cv1) 55 9 (List.map eMsg (out ++ [x])), cAcc (.slice av3 (i.toNat + (L5.length - (i + 1).toNat)) cv3) 55 9 (List.map eMsg (List.take i.toNat L5 ++ List.drop (i.toNat + 1) L5))]) (G' := [(.slice xa ((List.map eI x.c.when).length) xc, (D.sl 1 (List.map eI x.c.when))), (.slice ya ((List.map eOp x.c.ops).length) yc, (D.sl 7 (List.map eOp x.c.ops))), (.slice (some (⟨g, 0, none⟩)) L5.length c6, (D.sl 9 (List.map eMsg L5))), (.slice (some (⟨g, 0, none⟩)) i.toNat c6, (D.sl 9 (List.map eMsg (List.take i.toNat L5)))), (.slice (some (⟨g, 0 + (i + 1).toNat * 9, none⟩)) (L5.length - (i + 1).toNat) (c6 - (i + 1).toNat), (D.sl 9 (List.map eMsg (List.drop (i.toNat + 1) L5))))]) (by kernel_rfl) (by kernel_rfl) ?_
        rw [htd, show i.toNat + (L5.length - (i + 1).toNat) = (dropK L5 (q5 + 1)).length by omega]
        refine J_backx ⟨0, av1, k5 + 1, cv1, out ++ [x], av3, cv3, dropK L5 (q5 + 1), x.seq, x.time⟩ [0, 4, 5, 9, 10] [0] [1, 0] [] ?_ ?_ (by kernel_rfl) rfl rfl rfl
        · exact ⟨by simp, by simp, by simp, hd5.drop _, by rw [hxs]; simp only; omega, by rw [hxs]; simp only; omega, by simp; omega, by rw [hdr, drain_some hkp, hxs]; simp⟩
        · simp only
          omega
  · have hnone : kept L5 (q5 + 1) = none := kept_none.2 (by
      rw [List.take_of_length_le (by simp at hlt; omega)] at hno
      exact hno)
    refine J_exit rfl ?_
    refine J_seq ?_
    refine J_reg mixed [.rd 0 [] 0 0, .rd 1 [] 0 0, .rd 2 [] 0 0] [] [4, 5] (E1 := fun _ => [(4, .val (.slice a5 k5 c5)), (5, .val (.int .i64 0))]) (h1 := fun _ => [(b, .cells #[.int .i64 fm, .int .i64 to, .int .i64 sh, .int .i64 q5, .int .i64 t5, .slice a6 L5.length c6] 53 (0, 0))]) (p1 := fun _ => []) (W1 := []) (by kernel_rfl) (fun _ => by kernel_rfl) (fun _ => trivial) (fun _ => ?_)
    refine J_return [[], []] (.tuple #[.slice a5 k5 c5, .int .i64 0]) (by kernel_rfl) (fun a w s => ?_)
    rw [hdr, drain_none hnone]
    have s1 := (s.stp (stp_freeze 1 rfl)).hide 0 rfl
    rw [List.append_nil]
    exact ⟨_, _, _, _, _, _, s1.ret (by simp) [1, 0] [0] rfl rfl⟩

set_option maxHeartbeats 2000000 in
theorem refHear {w0 : World} {S : Nat → Prop} {M : List Nat} {b : Nat} {fm to sh q t : Int} {a : Option Addr} {k cc : Nat} {L : List MsgT} {m : MsgT} {a1 a2 : Option Addr} {n1 c1 n2 c2 : Nat}
    (hP : Pre w0 S M [cObj b (mCells fm to sh q t (.slice a k cc)), cAcc (.slice a k cc) 55 9 (L.map eMsg)]) (hd : Dist L) (h1 : Rep w0 S (.slice a1 n1 c1) (dInts m.c.when)) (h2 : Rep w0 S (.slice a2 n2 c2) (.sl 7 (m.c.ops.map eOp)))
    (hq0 : 0 ≤ q) (hq1 : q + L.length < 1000000) :
    Calls Tryd.prog 18 #[.pointer (some ⟨b, 0, none⟩), mAgg m (.slice a1 n1 c1) (.slice a2 n2 c2)] w0 fun e w' => ∃ a' n' c' u1 n3 d1,
      Ret M w0 S w' e (.tuple #[.slice a' n' c', .int .i64 (hearT fm to sh ⟨L, q, t⟩ m).1]) [cObj b (mCells fm to sh (hearT fm to sh ⟨L, q, t⟩ m).2.2.q (hearT fm to sh ⟨L, q, t⟩ m).2.2.t (.slice u1 n3 d1)), cAcc (.slice u1 n3 d1) 55 9 ((hearT fm to sh ⟨L, q, t⟩ m).2.2.L.map eMsg)]
        [(.slice a' n' c', .sl 9 ((hearT fm to sh ⟨L, q, t⟩ m).2.1.map eMsg))] := by
  refine en18 (args := [.pointer (some ⟨b, 0, none⟩), mAgg m (.slice a1 n1 c1) (.slice a2 n2 c2)]) (S := S) (C := [cObj b (mCells fm to sh q t (.slice a k cc)), cAcc (.slice a k cc) 55 9 (L.map eMsg)]) (G := [(_, dInts m.c.when), (_, .sl 7 (m.c.ops.map eOp))]) (by kernel_rfl) hP (.cons h1 (.cons h2 (.nil _ _))) ?_
  refine J_show 0 rfl ?_
  refine J_stpx (stp_acclen 0 rfl) fun _ hk => ?_
  rw [List.length_map] at hk
  subst hk
  refine J_seq ?_
  refine J_reg mixed [.wr 0 [] 0, .rd 1 [] 0 0, .rd 2 [] 0 0] [] [0, 3, 4, 5] (E1 := fun nu1 => [(0, .val (.pointer (some (⟨b, 0, none⟩)))), (3, .val (.pointer (some (⟨nu1 0, 0, none⟩)))), (4, .val (.slice none 0 0)), (5, .val (.int .i64 0))]) (h1 := fun nu1 => [(b, .cells #[.int .i64 fm, .int .i64 to, .int .i64 sh, .int .i64 q, .int .i64 t, .slice a L.length cc] 53 (0, 0)), (nu1 0, .cells #[.int .i64 m.fm, .int .i64 m.to, .int .i64 m.shard, .int .i64 m.seq, .int .i64 m.time, .bool m.beat, .slice a1 n1 c1, .int .i64 m.c.place, .slice a2 n2 c2] 55 (0, 0))]) (p1 := fun nu1 => []) (W1 := []) (by kernel_rfl) (fun _ => by kernel_rfl) (fun _ => trivial) (fun nu1 => ?_)
  refine J_seq ?_
  refine J_seq ?_
  refine J_reg mixed [.rd 0 [] 0 0, .rd 1 [.o 1 none] 0 0, .rd 2 [] 0 0, .rd 3 [] 0 0, .rd 4 [] 0 0, .rd 5 [.o 0 none] 0 0, .rd 6 [] 0 0, .rd 7 [] 0 0, .rd 8 [] 2 0, .rd 9 [.o 1 none] 2 0, .rd 10 [] 2 0, .rd 11 [] 2 0, .rd 12 [] 2 0, .rd 13 [.o 0 none] 2 0, .rd 14 [] 2 0, .rd 15 [] 0 3, .rd 16 [] 0 0, .rd 17 [] 2 0, .rd 18 [.o 1 none] 2 0, .rd 19 [] 2 0, .rd 20 [] 2 0, .rd 21 [] 2 0, .rd 22 [.o 0 none] 2 0, .rd 23 [] 2 0, .rd 24 [] 0 3] [] [0, 3, 4, 5, 37] (E1 := fun _ => [(0, .val (.pointer (some (⟨b, 0, none⟩)))), (3, .val (.pointer (some (⟨nu1 0, 0, none⟩)))), (4, .val (.slice none 0 0)), (5, .val (.int .i64 0)), (37, .val (.bool (m.fm != fm || m.to != to || m.shard != sh)))]) (h1 := fun _ => [(b, .cells #[.int .i64 fm, .int .i64 to, .int .i64 sh, .int .i64 q, .int .i64 t, .slice a L.length cc] 53 (0, 0)), (nu1 0, .cells #[.int .i64 m.fm, .int .i64 m.to, .int .i64 m.shard, .int .i64 m.seq, .int .i64 m.time, .bool m.beat, .slice a1 n1 c1, .int .i64 m.c.place, .slice a2 n2 c2] 55 (0, 0))]) (p1 := fun _ => []) (W1 := []) (by kernel_rfl) (fun _ => by kernel_rfl) (fun _ => trivial) (fun _ => ?_)
  refine J_cond (t := m.fm != fm || m.to != to || m.shard != sh) (by kernel_rfl) (by kernel_rfl) (fun hw => ?_) (fun hw => ?_)
  · have hT : hearT fm to sh ⟨L, q, t⟩ m = (3, [], ⟨L, q, t⟩) := by
      rw [hearT, if_pos]
      simp at hw
      omega
    rw [hT]
    refine J_seq ?_
    refine J_reg mixed [.rd 0 [] 0 0, .rd 1 [] 0 0] [] [0, 3, 4, 5] (E1 := fun _ => [(0, .val (.pointer (some (⟨b, 0, none⟩)))), (3, .val (.pointer (some (⟨nu1 0, 0, none⟩)))), (4, .val (.slice none 0 0)), (5, .val (.int .i64 3))]) (h1 := fun _ => [(b, .cells #[.int .i64 fm, .int .i64 to, .int .i64 sh, .int .i64 q, .int .i64 t, .slice a L.length cc] 53 (0, 0)), (nu1 0, .cells #[.int .i64 m.fm, .int .i64 m.to, .int .i64 m.shard, .int .i64 m.seq, .int .i64 m.time, .bool m.beat, .slice a1 n1 c1, .int .i64 m.c.place, .slice a2 n2 c2] 55 (0, 0))]) (p1 := fun _ => []) (W1 := []) (by kernel_rfl) (fun _ => by kernel_rfl) (fun _ => trivial) (fun _ => ?_)
    refine J_return [[], []] (.tuple #[.slice none 0 0, .int .i64 3]) (by kernel_rfl) (fun a w s => ?_)
    have s1 := (s.hide 0 rfl).stp (stp_fact (v := .slice none 0 0) (d := .sl 9 []) fun _ _ _ => .nil)
    exact ⟨_, _, _, _, _, _, s1.ret (by simp) [1, 0] [2] rfl rfl⟩
  · have hw2 : ¬ (m.fm ≠ fm ∨ m.to ≠ to ∨ m.shard ≠ sh) := by simp at hw; omega
    refine J_skip ?_
    refine J_seq ?_
    refine J_seq ?_
    refine J_reg mixed [.rd 0 [] 0 0, .rd 1 [.o 1 none] 0 0, .rd 2 [] 0 0, .rd 3 [] 0 0, .rd 4 [] 2 0, .rd 5 [.o 1 none] 2 0, .rd 6 [] 2 0, .rd 7 [] 0 3, .rd 8 [] 0 0, .rd 9 [] 2 0, .rd 10 [.o 1 none] 2 0, .rd 11 [] 2 0, .rd 12 [] 0 3] [] [0, 3, 4, 5, 50] (E1 := fun _ => [(0, .val (.pointer (some (⟨b, 0, none⟩)))), (3, .val (.pointer (some (⟨nu1 0, 0, none⟩)))), (4, .val (.slice none 0 0)), (5, .val (.int .i64 0)), (50, .val (.bool (decide (m.seq < 1) || decide (m.time < 0) || decide (m.time > 1099511627776))))]) (h1 := fun _ => [(b, .cells #[.int .i64 fm, .int .i64 to, .int .i64 sh, .int .i64 q, .int .i64 t, .slice a L.length cc] 53 (0, 0)), (nu1 0, .cells #[.int .i64 m.fm, .int .i64 m.to, .int .i64 m.shard, .int .i64 m.seq, .int .i64 m.time, .bool m.beat, .slice a1 n1 c1, .int .i64 m.c.place, .slice a2 n2 c2] 55 (0, 0))]) (p1 := fun _ => []) (W1 := []) (by kernel_rfl) (fun _ => by kernel_rfl) (fun _ => trivial) (fun _ => ?_)
    refine J_cond (t := decide (m.seq < 1) || decide (m.time < 0) || decide (m.time > 1099511627776)) (by kernel_rfl) (by kernel_rfl) (fun hb => ?_) (fun hb => ?_)
    · have hT : hearT fm to sh ⟨L, q, t⟩ m = (2, [], ⟨L, q, t⟩) := by
        rw [hearT, if_neg hw2, if_pos]
        simp at hb
        omega
      rw [hT]
      refine J_seq ?_
      refine J_reg mixed [.rd 0 [] 0 0, .rd 1 [] 0 0] [] [0, 3, 4, 5] (E1 := fun _ => [(0, .val (.pointer (some (⟨b, 0, none⟩)))), (3, .val (.pointer (some (⟨nu1 0, 0, none⟩)))), (4, .val (.slice none 0 0)), (5, .val (.int .i64 2))]) (h1 := fun _ => [(b, .cells #[.int .i64 fm, .int .i64 to, .int .i64 sh, .int .i64 q, .int .i64 t, .slice a L.length cc] 53 (0, 0)), (nu1 0, .cells #[.int .i64 m.fm, .int .i64 m.to, .int .i64 m.shard, .int .i64 m.seq, .int .i64 m.time, .bool m.beat, .slice a1 n1 c1, .int .i64 m.c.place, .slice a2 n2 c2] 55 (0, 0))]) (p1 := fun _ => []) (W1 := []) (by kernel_rfl) (fun _ => by kernel_rfl) (fun _ => trivial) (fun _ => ?_)
      refine J_return [[], []] (.tuple #[.slice none 0 0, .int .i64 2]) (by kernel_rfl) (fun a w s => ?_)
      have s1 := (s.hide 0 rfl).stp (stp_fact (v := .slice none 0 0) (d := .sl 9 []) fun _ _ _ => .nil)
      exact ⟨_, _, _, _, _, _, s1.ret (by simp) [1, 0] [2] rfl rfl⟩
    · have hb2 : ¬ (m.seq < 1 ∨ m.time < 0 ∨ 1099511627776 < m.time) := by simp at hb; omega
      refine J_skip ?_
      refine J_seq ?_
      refine J_seq ?_
      refine J_reg mixed [.rd 0 [] 0 0, .rd 1 [.o 1 none] 0 0, .rd 2 [] 0 0, .rd 3 [] 0 0, .rd 4 [] 0 0, .rd 5 [.o 0 none] 0 0, .rd 6 [] 0 0] [] [0, 3, 4, 5, 57] (E1 := fun _ => [(0, .val (.pointer (some (⟨b, 0, none⟩)))), (3, .val (.pointer (some (⟨nu1 0, 0, none⟩)))), (4, .val (.slice none 0 0)), (5, .val (.int .i64 0)), (57, .val (.bool (decide (m.seq ≤ q))))]) (h1 := fun _ => [(b, .cells #[.int .i64 fm, .int .i64 to, .int .i64 sh, .int .i64 q, .int .i64 t, .slice a L.length cc] 53 (0, 0)), (nu1 0, .cells #[.int .i64 m.fm, .int .i64 m.to, .int .i64 m.shard, .int .i64 m.seq, .int .i64 m.time, .bool m.beat, .slice a1 n1 c1, .int .i64 m.c.place, .slice a2 n2 c2] 55 (0, 0))]) (p1 := fun _ => []) (W1 := []) (by kernel_rfl) (fun _ => by kernel_rfl) (fun _ => trivial) (fun _ => ?_)
      refine J_cond (t := decide (m.seq ≤ q)) (by kernel_rfl) (by kernel_rfl) (fun ho => ?_) (fun ho => ?_)
      · have hT : hearT fm to sh ⟨L, q, t⟩ m = (0, [], ⟨L, q, t⟩) := by
          rw [hearT, if_neg hw2, if_neg hb2, if_pos (by simpa using ho)]
        rw [hT]
        refine J_seq ?_
        refine J_reg mixed [.rd 0 [] 0 0, .rd 1 [] 0 0] [] [0, 3, 4, 5] (E1 := fun _ => [(0, .val (.pointer (some (⟨b, 0, none⟩)))), (3, .val (.pointer (some (⟨nu1 0, 0, none⟩)))), (4, .val (.slice none 0 0)), (5, .val (.int .i64 0))]) (h1 := fun _ => [(b, .cells #[.int .i64 fm, .int .i64 to, .int .i64 sh, .int .i64 q, .int .i64 t, .slice a L.length cc] 53 (0, 0)), (nu1 0, .cells #[.int .i64 m.fm, .int .i64 m.to, .int .i64 m.shard, .int .i64 m.seq, .int .i64 m.time, .bool m.beat, .slice a1 n1 c1, .int .i64 m.c.place, .slice a2 n2 c2] 55 (0, 0))]) (p1 := fun _ => []) (W1 := []) (by kernel_rfl) (fun _ => by kernel_rfl) (fun _ => trivial) (fun _ => ?_)
        refine J_return [[], []] (.tuple #[.slice none 0 0, .int .i64 0]) (by kernel_rfl) (fun a w s => ?_)
        have s1 := (s.hide 0 rfl).stp (stp_fact (v := .slice none 0 0) (d := .sl 9 []) fun _ _ _ => .nil)
        exact ⟨_, _, _, _, _, _, s1.ret (by simp) [1, 0] [2] rfl rfl⟩
      · have ho2 : q < m.seq := by simpa using ho
        refine J_skip ?_
        refine J_seq ?_
        refine J_seq ?_
        refine J_reg mixed [.rd 0 [] 0 0, .rd 1 [.o 1 none] 0 0, .rd 2 [] 0 0, .rd 3 [] 0 0, .rd 4 [] 0 0, .rd 5 [.o 0 none] 0 0, .rd 6 [] 0 1, .rd 7 [] 0 1, .rd 8 [] 0 0] [] [0, 3, 4, 5, 66] (E1 := fun _ => [(0, .val (.pointer (some (⟨b, 0, none⟩)))), (3, .val (.pointer (some (⟨nu1 0, 0, none⟩)))), (4, .val (.slice none 0 0)), (5, .val (.int .i64 0)), (66, .val (.bool (decide (m.seq > q + 1 + 200))))]) (h1 := fun _ => [(b, .cells #[.int .i64 fm, .int .i64 to, .int .i64 sh, .int .i64 q, .int .i64 t, .slice a L.length cc] 53 (0, 0)), (nu1 0, .cells #[.int .i64 m.fm, .int .i64 m.to, .int .i64 m.shard, .int .i64 m.seq, .int .i64 m.time, .bool m.beat, .slice a1 n1 c1, .int .i64 m.c.place, .slice a2 n2 c2] 55 (0, 0))]) (p1 := fun _ => [IntKind.i64.wrap (q + (1 : Int)) = q + (1 : Int), IntKind.i64.wrap (q + (1 : Int) + (200 : Int)) = q + (1 : Int) + (200 : Int)]) (W1 := []) (by kernel_rfl) (fun _ => by kernel_rfl) (fun _ => ⟨wrap_i64 (by omega) (by omega), wrap_i64 (by omega) (by omega), trivial⟩) (fun _ => ?_)
        refine J_cond (t := decide (m.seq > q + 1 + 200)) (by kernel_rfl) (by kernel_rfl) (fun hf => ?_) (fun hf => ?_)
        · have hT : hearT fm to sh ⟨L, q, t⟩ m = (7, [], ⟨L, q, t⟩) := by
            rw [hearT, if_neg hw2, if_neg hb2, if_neg (by simp; omega), if_pos (by simp at hf; simp; omega)]
          rw [hT]
          refine J_seq ?_
          refine J_reg mixed [.rd 0 [] 0 0, .rd 1 [] 0 0] [] [0, 3, 4, 5] (E1 := fun _ => [(0, .val (.pointer (some (⟨b, 0, none⟩)))), (3, .val (.pointer (some (⟨nu1 0, 0, none⟩)))), (4, .val (.slice none 0 0)), (5, .val (.int .i64 7))]) (h1 := fun _ => [(b, .cells #[.int .i64 fm, .int .i64 to, .int .i64 sh, .int .i64 q, .int .i64 t, .slice a L.length cc] 53 (0, 0)), (nu1 0, .cells #[.int .i64 m.fm, .int .i64 m.to, .int .i64 m.shard, .int .i64 m.seq, .int .i64 m.time, .bool m.beat, .slice a1 n1 c1, .int .i64 m.c.place, .slice a2 n2 c2] 55 (0, 0))]) (p1 := fun _ => []) (W1 := []) (by kernel_rfl) (fun _ => by kernel_rfl) (fun _ => trivial) (fun _ => ?_)
          refine J_return [[], []] (.tuple #[.slice none 0 0, .int .i64 7]) (by kernel_rfl) (fun a w s => ?_)
          have s1 := (s.hide 0 rfl).stp (stp_fact (v := .slice none 0 0) (d := .sl 9 []) fun _ _ _ => .nil)
          exact ⟨_, _, _, _, _, _, s1.ret (by simp) [1, 0] [2] rfl rfl⟩
        · have hf2 : ¬ 201 < m.seq - q := by simp at hf; omega
          refine J_skip ?_
          refine J_seq ?_
          refine J_reg mixed [.rd 0 [] 0 0] [] [0, 3, 4, 5, 6] (E1 := fun _ => [(0, .val (.pointer (some (⟨b, 0, none⟩)))), (3, .val (.pointer (some (⟨nu1 0, 0, none⟩)))), (4, .val (.slice none 0 0)), (5, .val (.int .i64 0)), (6, .val (.bool false))]) (h1 := fun _ => [(b, .cells #[.int .i64 fm, .int .i64 to, .int .i64 sh, .int .i64 q, .int .i64 t, .slice a L.length cc] 53 (0, 0)), (nu1 0, .cells #[.int .i64 m.fm, .int .i64 m.to, .int .i64 m.shard, .int .i64 m.seq, .int .i64 m.time, .bool m.beat, .slice a1 n1 c1, .int .i64 m.c.place, .slice a2 n2 c2] 55 (0, 0))]) (p1 := fun _ => []) (W1 := []) (by kernel_rfl) (fun _ => by kernel_rfl) (fun _ => trivial) (fun _ => ?_)
          refine J_seq ?_
          refine J_seq ?_
          refine J_reg mixed [.rd 0 [] 0 0] [] [0, 3, 4, 5, 6, 7] (E1 := fun _ => [(0, .val (.pointer (some (⟨b, 0, none⟩)))), (3, .val (.pointer (some (⟨nu1 0, 0, none⟩)))), (4, .val (.slice none 0 0)), (5, .val (.int .i64 0)), (6, .val (.bool false)), (7, .val (.int .i64 0))]) (h1 := fun _ => [(b, .cells #[.int .i64 fm, .int .i64 to, .int .i64 sh, .int .i64 q, .int .i64 t, .slice a L.length cc] 53 (0, 0)), (nu1 0, .cells #[.int .i64 m.fm, .int .i64 m.to, .int .i64 m.shard, .int .i64 m.seq, .int .i64 m.time, .bool m.beat, .slice a1 n1 c1, .int .i64 m.c.place, .slice a2 n2 c2] 55 (0, 0))]) (p1 := fun _ => []) (W1 := []) (by kernel_rfl) (fun _ => by kernel_rfl) (fun _ => trivial) (fun _ => ?_)
          refine J_block ?_
          refine J_loopx (fun x : ScanS => [(0, .val (.pointer (some (⟨b, 0, none⟩)))), (3, .val (.pointer (some (⟨nu1 0, 0, none⟩)))), (4, .val (.slice none 0 0)), (5, .val (.int .i64 0)), (6, .val (.bool x.b)), (7, .val (.int .i64 x.i))]) (fun x : ScanS => [(b, .cells #[.int .i64 fm, .int .i64 to, .int .i64 sh, .int .i64 q, .int .i64 t, .slice a L.length cc] 53 (0, 0)), (nu1 0, .cells #[.int .i64 m.fm, .int .i64 m.to, .int .i64 m.shard, .int .i64 m.seq, .int .i64 m.time, .bool m.beat, .slice a1 n1 c1, .int .i64 m.c.place, .slice a2 n2 c2] 55 (0, 0))]) (fun x : ScanS => [cAcc (.slice a L.length cc) 55 9 (L.map eMsg)]) (fun x : ScanS => [(.slice a1 n1 c1, (dInts m.c.when)), (.slice a2 n2 c2, (D.sl 7 (List.map eOp m.c.ops)))]) (fun x : ScanS => (L.length - x.i).toNat) (fun x : ScanS => (0 ≤ x.i ∧ x.i ≤ L.length ∧ x.b = hasSeq (L.take x.i.toNat) m.seq)) ⟨0, false⟩ [0, 3, 4, 5, 6, 7] [0, 1] [0] [0, 1] ?_ (by kernel_rfl) rfl rfl rfl ?_
          · exact ⟨by simp, by simp, rfl⟩
          rintro ⟨i, bb⟩ ⟨hi0, hi, hbb⟩
          dsimp only at hi0 hi hbb ⊢
          refine J_seq ?_
          refine J_seq ?_
          refine J_reg mixed [.rd 0 [] 0 0, .rd 1 [] 0 0, .rd 2 [] 0 0, .rd 3 [] 0 0, .rd 4 [.o 0 none] 0 0, .rd 5 [] 0 0, .rd 6 [] 0 0] [] [0, 3, 4, 5, 6, 7, 73] (E1 := fun _ => [(0, .val (.pointer (some (⟨b, 0, none⟩)))), (3, .val (.pointer (some (⟨nu1 0, 0, none⟩)))), (4, .val (.slice none 0 0)), (5, .val (.int .i64 0)), (6, .val (.bool bb)), (7, .val (.int .i64 i)), (73, .val (.bool (decide (i < (↑L.length : Int)))))]) (h1 := fun _ => [(b, .cells #[.int .i64 fm, .int .i64 to, .int .i64 sh, .int .i64 q, .int .i64 t, .slice a L.length cc] 53 (0, 0)), (nu1 0, .cells #[.int .i64 m.fm, .int .i64 m.to, .int .i64 m.shard, .int .i64 m.seq, .int .i64 m.time, .bool m.beat, .slice a1 n1 c1, .int .i64 m.c.place, .slice a2 n2 c2] 55 (0, 0))]) (p1 := fun _ => []) (W1 := []) (by kernel_rfl) (fun _ => by kernel_rfl) (fun _ => trivial) (fun _ => ?_)
          refine J_cond (t := decide (i < (↑L.length : Int))) (by kernel_rfl) (by kernel_rfl) (fun hlt => ?_) (fun hlt => ?_)
          · have hlt2 : i < L.length := by simpa using hlt
            obtain ⟨x, hx⟩ : ∃ x, L[i.toNat]? = some x := ⟨_, List.getElem?_eq_getElem (by omega)⟩
            refine J_openacc 0 rfl (by intro h0; rw [List.map_eq_nil_iff] at h0; rw [h0] at hx; simp at hx) fun g cur xs hu _ _ hrow => ?_
            subst hu
            refine J_stpx (stp_readrows 0 rfl i.toNat (map_at hx)) fun ls hls => ?_
            obtain ⟨hls1, hls2⟩ := hls
            obtain ⟨⟨xa, xc⟩, ⟨ya, yc⟩, rfl⟩ : ∃ l0 l1, ls = [l0, l1] := len2 hls1
            have r3 : cur[0 + i.toNat * 9 + 3]? = some (.int .i64 x.seq) := by rw [Nat.zero_add]; exact hrow.atx (hls2 3 _ rfl)
            try simp only [List.cons_append, List.nil_append, List.append_nil]
            refine J_skip ?_
            try simp only [List.cons_append, List.nil_append, List.append_nil]
            refine J_seq ?_
            try simp only [List.cons_append, List.nil_append, List.append_nil]
            refine J_block ?_
            try simp only [List.cons_append, List.nil_append, List.append_nil]
            refine J_seq ?_
            try simp only [List.cons_append, List.nil_append, List.append_nil]
            refine J_reg mixed [.rd 0 [] 0 0, .rd 1 [] 0 0, .rd 2 [] 0 0, .rd 3 [.o 0 none] 0 0, .rd 4 [] 0 0, .rd 5 [] 0 2, .rd 6 [] 0 0, .rd 7 [.o 2 (some (.int .i64 x.seq))] 0 0, .rd 8 [] 0 0, .rd 9 [.o 1 none] 0 0, .rd 10 [] 0 0] [] [0, 3, 4, 5, 6, 7, 86] (E1 := fun _ => [(0, .val (.pointer (some (⟨b, 0, none⟩)))), (3, .val (.pointer (some (⟨nu1 0, 0, none⟩)))), (4, .val (.slice none 0 0)), (5, .val (.int .i64 0)), (6, .val (.bool bb)), (7, .val (.int .i64 i)), (86, .val (.bool (x.seq == m.seq)))]) (h1 := fun _ => [(b, .cells #[.int .i64 fm, .int .i64 to, .int .i64 sh, .int .i64 q, .int .i64 t, .slice (some (⟨g, 0, none⟩)) L.length cc] 53 (0, 0)), (nu1 0, .cells #[.int .i64 m.fm, .int .i64 m.to, .int .i64 m.shard, .int .i64 m.seq, .int .i64 m.time, .bool m.beat, .slice a1 n1 c1, .int .i64 m.c.place, .slice a2 n2 c2] 55 (0, 0)), (g, .cells cur 55 (0, 0))]) (p1 := fun _ => [(0 : Int) ≤ i, i < (↑L.length : Int), cur[(0 : Nat) + i.toNat * (9 : Nat) + (3 : Nat)]? = some (Value.int IntKind.i64 x.seq)]) (W1 := []) (by kernel_rfl) (fun _ => by kernel_rfl) (fun _ => ⟨hi0, hlt2, r3, trivial⟩) (fun _ => ?_)
            try simp only [List.cons_append, List.nil_append, List.append_nil]
            refine J_hide 2 rfl ?_
            refine J_stp (stp_closeacc 1 0 rfl rfl hrow (by decide)) ?_
            rw [show (List.map eMsg L).length = L.length from List.length_map ..]
            have hsn : hasSeq (L.take (i + 1).toNat) m.seq = (bb || x.seq == m.seq) := by rw [← take_snoc hi0 hx, hasSeq_snoc, hbb]
            refine J_cond (t := x.seq == m.seq) (by kernel_rfl) (by kernel_rfl) (fun heq => ?_) (fun heq => ?_)
            · try simp only [List.cons_append, List.nil_append, List.append_nil]
              refine J_reg mixed [.rd 0 [] 0 0] [] [0, 3, 4, 5, 6, 7] (E1 := fun _ => [(0, .val (.pointer (some (⟨b, 0, none⟩)))), (3, .val (.pointer (some (⟨nu1 0, 0, none⟩)))), (4, .val (.slice none 0 0)), (5, .val (.int .i64 0)), (6, .val (.bool true)), (7, .val (.int .i64 i))]) (h1 := fun _ => [(b, .cells #[.int .i64 fm, .int .i64 to, .int .i64 sh, .int .i64 q, .int .i64 t, .slice (some (⟨g, 0, none⟩)) L.length cc] 53 (0, 0)), (nu1 0, .cells #[.int .i64 m.fm, .int .i64 m.to, .int .i64 m.shard, .int .i64 m.seq, .int .i64 m.time, .bool m.beat, .slice a1 n1 c1, .int .i64 m.c.place, .slice a2 n2 c2] 55 (0, 0))]) (p1 := fun _ => []) (W1 := []) (by kernel_rfl) (fun _ => by kernel_rfl) (fun _ => trivial) (fun _ => ?_)
              try simp only [List.cons_append, List.nil_append, List.append_nil]
              refine J_eb ?_
              try simp only [List.cons_append, List.nil_append, List.append_nil]
              refine J_reg mixed [.rd 0 [] 0 0, .rd 1 [] 0 1, .rd 2 [] 0 0] [] [0, 3, 4, 5, 6, 7] (E1 := fun _ => [(0, .val (.pointer (some (⟨b, 0, none⟩)))), (3, .val (.pointer (some (⟨nu1 0, 0, none⟩)))), (4, .val (.slice none 0 0)), (5, .val (.int .i64 0)), (6, .val (.bool true)), (7, .val (.int .i64 (i + 1)))]) (h1 := fun _ => [(b, .cells #[.int .i64 fm, .int .i64 to, .int .i64 sh, .int .i64 q, .int .i64 t, .slice (some (⟨g, 0, none⟩)) L.length cc] 53 (0, 0)), (nu1 0, .cells #[.int .i64 m.fm, .int .i64 m.to, .int .i64 m.shard, .int .i64 m.seq, .int .i64 m.time, .bool m.beat, .slice a1 n1 c1, .int .i64 m.c.place, .slice a2 n2 c2] 55 (0, 0))]) (p1 := fun _ => [IntKind.i64.wrap (i + (1 : Int)) = i + (1 : Int)]) (W1 := []) (by kernel_rfl) (fun _ => by kernel_rfl) (fun _ => ⟨wrap_i64 (by omega) (by omega), trivial⟩) (fun _ => ?_)
              try simp only [List.cons_append, List.nil_append, List.append_nil]
              refine J_backx ⟨i + 1, true⟩ [0, 3, 4, 5, 6, 7] [0, 1] [0] [0, 1] ?_ ?_ (by kernel_rfl) rfl rfl rfl
              · refine ⟨by simp only; omega, by simp only; omega, ?_⟩
                rw [hsn, heq, Bool.or_true]
              · simp only
                omega
            · try simp only [List.cons_append, List.nil_append, List.append_nil]
              refine J_skip ?_
              try simp only [List.cons_append, List.nil_append, List.append_nil]
              refine J_eb ?_
              try simp only [List.cons_append, List.nil_append, List.append_nil]
              refine J_reg mixed [.rd 0 [] 0 0, .rd 1 [] 0 1, .rd 2 [] 0 0] [] [0, 3, 4, 5, 6, 7] (E1 := fun _ => [(0, .val (.pointer (some (⟨b, 0, none⟩)))), (3, .val (.pointer (some (⟨nu1 0, 0, none⟩)))), (4, .val (.slice none 0 0)), (5, .val (.int .i64 0)), (6, .val (.bool bb)), (7, .val (.int .i64 (i + 1)))]) (h1 := fun _ => [(b, .cells #[.int .i64 fm, .int .i64 to, .int .i64 sh, .int .i64 q, .int .i64 t, .slice (some (⟨g, 0, none⟩)) L.length cc] 53 (0, 0)), (nu1 0, .cells #[.int .i64 m.fm, .int .i64 m.to, .int .i64 m.shard, .int .i64 m.seq, .int .i64 m.time, .bool m.beat, .slice a1 n1 c1, .int .i64 m.c.place, .slice a2 n2 c2] 55 (0, 0))]) (p1 := fun _ => [IntKind.i64.wrap (i + (1 : Int)) = i + (1 : Int)]) (W1 := []) (by kernel_rfl) (fun _ => by kernel_rfl) (fun _ => ⟨wrap_i64 (by omega) (by omega), trivial⟩) (fun _ => ?_)
              try simp only [List.cons_append, List.nil_append, List.append_nil]
              refine J_backx ⟨i + 1, bb⟩ [0, 3, 4, 5, 6, 7] [0, 1] [0] [0, 1] ?_ ?_ (by kernel_rfl) rfl rfl rfl
              · refine ⟨by simp only; omega, by simp only; omega, ?_⟩
                rw [hsn, heq, Bool.or_false]
              · simp only
                omega
          · have e : List.take i.toNat L = L := List.take_of_length_le (by simp at hlt; omega)
            rw [e] at hbb
            refine J_exit rfl ?_
            refine J_seq ?_
            refine J_seq ?_
            refine J_reg mixed [.rd 0 [] 0 0, .rd 1 [] 0 0] [] [0, 3, 4, 5, 88] (E1 := fun _ => [(0, .val (.pointer (some (⟨b, 0, none⟩)))), (3, .val (.pointer (some (⟨nu1 0, 0, none⟩)))), (4, .val (.slice none 0 0)), (5, .val (.int .i64 0)), (88, .val (.bool !bb))]) (h1 := fun _ => [(b, .cells #[.int .i64 fm, .int .i64 to, .int .i64 sh, .int .i64 q, .int .i64 t, .slice a L.length cc] 53 (0, 0)), (nu1 0, .cells #[.int .i64 m.fm, .int .i64 m.to, .int .i64 m.shard, .int .i64 m.seq, .int .i64 m.time, .bool m.beat, .slice a1 n1 c1, .int .i64 m.c.place, .slice a2 n2 c2] 55 (0, 0))]) (p1 := fun _ => []) (W1 := []) (by kernel_rfl) (fun _ => by kernel_rfl) (fun _ => trivial) (fun _ => ?_)
            refine J_cond (t := !bb) (by kernel_rfl) (by kernel_rfl) (fun his => ?_) (fun his => ?_)
            · refine J_seq ?_
              refine JR_begin mixed [(0, true), (1, true), (2, true), (3, true), (4, true), (5, false), (6, false), (7, true)] [(6, [])] (by kernel_rfl) (by kernel_rfl) ?_
              refine JR_run (id := 16) (rest := [(6, false), (7, true)]) [.rd 0 [] 0 0, .rd 1 [] 0 0, .rd 2 [] 0 0, .rd 3 [.o 0 none] 0 0, .rd 4 [.o 1 none, .o 1 none, .o 1 none, .o 1 none, .o 1 none, .o 1 none, .o 1 none, .o 1 none, .o 1 none] 0 0, .wr 5 [] 0] [0, 4, 5, 92, 94] (E1 := fun nu2 => [(0, .val (.pointer (some (⟨b, 0, none⟩)))), (4, .val (.slice none 0 0)), (5, .val (.int .i64 0)), (92, .val (.slice a L.length cc)), (94, .val (.slice (some (⟨nu2 0, 0, none⟩)) 1 1))]) (h1 := fun nu2 => [(b, .cells #[.int .i64 fm, .int .i64 to, .int .i64 sh, .int .i64 q, .int .i64 t, .slice a L.length cc] 53 (0, 0)), (nu1 0, .cells #[.int .i64 m.fm, .int .i64 m.to, .int .i64 m.shard, .int .i64 m.seq, .int .i64 m.time, .bool m.beat, .slice a1 n1 c1, .int .i64 m.c.place, .slice a2 n2 c2] 55 (0, 0)), (nu2 0, .cells #[.int .i64 m.fm, .int .i64 m.to, .int .i64 m.shard, .int .i64 m.seq, .int .i64 m.time, .bool m.beat, .slice a1 n1 c1, .int .i64 m.c.place, .slice a2 n2 c2] 55 (0, 0))]) (p1 := fun nu2 => []) (W1 := [(6, [])]) (fun _ => by kernel_rfl) (fun _ => trivial) (fun nu2 => ?_)
              refine JR_appm 0 48 55 9 104 (.agg #[.int .i64 0, .int .i64 0, .int .i64 0, .int .i64 0, .int .i64 0, .bool false, .slice none 0 0, .int .i64 0, .slice none 0 0]) (a0 := a) (len := L.length) (cap0 := cc) (ax := (some (⟨nu2 0, 0, none⟩))) (m := 1) (c := 1) (dst := (some 95)) [m] (by kernel_rfl) (by kernel_rfl) (by kernel_rfl) (by kernel_rfl) rfl (by decide) rfl (fun _ _ _ s => src_one s 2 rfl rfl ⟨.inl ⟨rfl, rfl⟩, ⟨.inl ⟨rfl, rfl⟩, ⟨.inl ⟨rfl, rfl⟩, ⟨.inl ⟨rfl, rfl⟩, ⟨.inl ⟨rfl, rfl⟩, ⟨.inl ⟨rfl, rfl⟩, ⟨.inr (.inl (List.mem_of_getElem? (i := 0) rfl)), ⟨.inl ⟨rfl, rfl⟩, ⟨.inr (.inl (List.mem_of_getElem? (i := 1) rfl)), trivial⟩⟩⟩⟩⟩⟩⟩⟩⟩) (by simp only [maxLen]; omega) (by omega) (fun av1 cv1 => ?_)
              try simp only [List.cons_append, List.nil_append, List.append_nil]
              refine JR_run (id := 16) (rest := []) [.rd 7 [] 0 0] [0, 4, 5, 8] (E1 := fun _ => [(0, .val (.pointer (some (⟨b, 0, none⟩)))), (4, .val (.slice none 0 0)), (5, .val (.int .i64 0)), (8, .val (.slice av1 (L.length + 1) cv1))]) (h1 := fun _ => [(b, .cells #[.int .i64 fm, .int .i64 to, .int .i64 sh, .int .i64 q, .int .i64 t, .slice a L.length cc] 53 (0, 0)), (nu1 0, .cells #[.int .i64 m.fm, .int .i64 m.to, .int .i64 m.shard, .int .i64 m.seq, .int .i64 m.time, .bool m.beat, .slice a1 n1 c1, .int .i64 m.c.place, .slice a2 n2 c2] 55 (0, 0)), (nu2 0, .cells #[.int .i64 m.fm, .int .i64 m.to, .int .i64 m.shard, .int .i64 m.seq, .int .i64 m.time, .bool m.beat, .slice a1 n1 c1, .int .i64 m.c.place, .slice a2 n2 c2] 55 (0, 0))]) (p1 := fun _ => []) (W1 := []) (fun _ => by kernel_rfl) (fun _ => trivial) (fun _ => ?_)
              try simp only [List.cons_append, List.nil_append, List.append_nil]
              refine JR_end ?_
              try simp only [List.cons_append, List.nil_append, List.append_nil]
              refine J_reg mixed [.rd 0 [] 0 0, .rd 1 [] 0 0, .rd 2 [] 0 0, .rd 3 [] 0 0, .wr 4 [.o 0 none] 0] [(4, [0])] [0, 4, 5] (E1 := fun _ => [(0, .val (.pointer (some (⟨b, 0, none⟩)))), (4, .val (.slice none 0 0)), (5, .val (.int .i64 0))]) (h1 := fun _ => [(b, .cells #[.int .i64 fm, .int .i64 to, .int .i64 sh, .int .i64 q, .int .i64 t, .slice av1 (L.length + 1) cv1] 53 (0, 0)), (nu1 0, .cells #[.int .i64 m.fm, .int .i64 m.to, .int .i64 m.shard, .int .i64 m.seq, .int .i64 m.time, .bool m.beat, .slice a1 n1 c1, .int .i64 m.c.place, .slice a2 n2 c2] 55 (0, 0)), (nu2 0, .cells #[.int .i64 m.fm, .int .i64 m.to, .int .i64 m.shard, .int .i64 m.seq, .int .i64 m.time, .bool m.beat, .slice a1 n1 c1, .int .i64 m.c.place, .slice a2 n2 c2] 55 (0, 0))]) (p1 := fun _ => []) (W1 := []) (by kernel_rfl) (fun _ => by kernel_rfl) (fun _ => trivial) (fun _ => ?_)
              try simp only [List.cons_append, List.nil_append, List.append_nil]
              refine J_seq ?_
              try simp only [List.cons_append, List.nil_append, List.append_nil]
              refine J_reg mixed [.rd 0 [] 0 0] [] [0, 4, 5, 9] (E1 := fun _ => [(0, .val (.pointer (some (⟨b, 0, none⟩)))), (4, .val (.slice none 0 0)), (5, .val (.int .i64 0)), (9, .val (.slice none 0 0))]) (h1 := fun _ => [(b, .cells #[.int .i64 fm, .int .i64 to, .int .i64 sh, .int .i64 q, .int .i64 t, .slice av1 (L.length + 1) cv1] 53 (0, 0)), (nu1 0, .cells #[.int .i64 m.fm, .int .i64 m.to, .int .i64 m.shard, .int .i64 m.seq, .int .i64 m.time, .bool m.beat, .slice a1 n1 c1, .int .i64 m.c.place, .slice a2 n2 c2] 55 (0, 0)), (nu2 0, .cells #[.int .i64 m.fm, .int .i64 m.to, .int .i64 m.shard, .int .i64 m.seq, .int .i64 m.time, .bool m.beat, .slice a1 n1 c1, .int .i64 m.c.place, .slice a2 n2 c2] 55 (0, 0))]) (p1 := fun _ => []) (W1 := []) (by kernel_rfl) (fun _ => by kernel_rfl) (fun _ => trivial) (fun _ => ?_)
              try simp only [List.cons_append, List.nil_append, List.append_nil]
              refine J_seq ?_
              try simp only [List.cons_append, List.nil_append, List.append_nil]
              refine J_seq ?_
              try simp only [List.cons_append, List.nil_append, List.append_nil]
              refine J_reg mixed [.rd 0 [] 0 0] [] [0, 4, 5, 9, 10] (E1 := fun _ => [(0, .val (.pointer (some (⟨b, 0, none⟩)))), (4, .val (.slice none 0 0)), (5, .val (.int .i64 0)), (9, .val (.slice none 0 0)), (10, .val (.int .i64 0))]) (h1 := fun _ => [(b, .cells #[.int .i64 fm, .int .i64 to, .int .i64 sh, .int .i64 q, .int .i64 t, .slice av1 (L.length + 1) cv1] 53 (0, 0)), (nu1 0, .cells #[.int .i64 m.fm, .int .i64 m.to, .int .i64 m.shard, .int .i64 m.seq, .int .i64 m.time, .bool m.beat, .slice a1 n1 c1, .int .i64 m.c.place, .slice a2 n2 c2] 55 (0, 0)), (nu2 0, .cells #[.int .i64 m.fm, .int .i64 m.to, .int .i64 m.shard, .int .i64 m.seq, .int .i64 m.time, .bool m.beat, .slice a1 n1 c1, .int .i64 m.c.place, .slice a2 n2 c2] 55 (0, 0))]) (p1 := fun _ => []) (W1 := []) (by kernel_rfl) (fun _ => by kernel_rfl) (fun _ => trivial) (fun _ => ?_)
              try simp only [List.cons_append, List.nil_append, List.append_nil]
              refine J_block ?_
              try simp only [List.cons_append, List.nil_append, List.append_nil]
              have hk : kept L m.seq = none := hasSeq_none (by rw [← hbb]; simpa using his)
              have hT : hearT fm to sh ⟨L, q, t⟩ m = (0, (drainAll (L ++ [m]) q t).1, ⟨(drainAll (L ++ [m]) q t).2.1, (drainAll (L ++ [m]) q t).2.2.1, (drainAll (L ++ [m]) q t).2.2.2⟩) := by
                rw [hearT, if_neg hw2, if_neg hb2, if_neg (by simp; omega), if_neg (by simpa using hf2)]
                simp only [hk]
              rw [hT]
              exact J_cut [0, 4, 5, 9, 10] [0] [0] [] rfl rfl rfl rfl (refLoop (hd.app hk) (by simp) hq0 (by simp; omega) (Nat.le_refl _))
            · refine J_skip ?_
              refine J_seq ?_
              refine J_reg mixed [.rd 0 [] 0 0] [] [0, 4, 5, 9] (E1 := fun _ => [(0, .val (.pointer (some (⟨b, 0, none⟩)))), (4, .val (.slice none 0 0)), (5, .val (.int .i64 0)), (9, .val (.slice none 0 0))]) (h1 := fun _ => [(b, .cells #[.int .i64 fm, .int .i64 to, .int .i64 sh, .int .i64 q, .int .i64 t, .slice a L.length cc] 53 (0, 0)), (nu1 0, .cells #[.int .i64 m.fm, .int .i64 m.to, .int .i64 m.shard, .int .i64 m.seq, .int .i64 m.time, .bool m.beat, .slice a1 n1 c1, .int .i64 m.c.place, .slice a2 n2 c2] 55 (0, 0))]) (p1 := fun _ => []) (W1 := []) (by kernel_rfl) (fun _ => by kernel_rfl) (fun _ => trivial) (fun _ => ?_)
              refine J_seq ?_
              refine J_seq ?_
              refine J_reg mixed [.rd 0 [] 0 0] [] [0, 4, 5, 9, 10] (E1 := fun _ => [(0, .val (.pointer (some (⟨b, 0, none⟩)))), (4, .val (.slice none 0 0)), (5, .val (.int .i64 0)), (9, .val (.slice none 0 0)), (10, .val (.int .i64 0))]) (h1 := fun _ => [(b, .cells #[.int .i64 fm, .int .i64 to, .int .i64 sh, .int .i64 q, .int .i64 t, .slice a L.length cc] 53 (0, 0)), (nu1 0, .cells #[.int .i64 m.fm, .int .i64 m.to, .int .i64 m.shard, .int .i64 m.seq, .int .i64 m.time, .bool m.beat, .slice a1 n1 c1, .int .i64 m.c.place, .slice a2 n2 c2] 55 (0, 0))]) (p1 := fun _ => []) (W1 := []) (by kernel_rfl) (fun _ => by kernel_rfl) (fun _ => trivial) (fun _ => ?_)
              refine J_block ?_
              obtain ⟨x0, hk⟩ := hasSeq_some (L := L) (k := m.seq) (by rw [← hbb]; simpa using his)
              have hT : hearT fm to sh ⟨L, q, t⟩ m = (0, (drainAll L q t).1, ⟨(drainAll L q t).2.1, (drainAll L q t).2.2.1, (drainAll L q t).2.2.2⟩) := by
                rw [hearT, if_neg hw2, if_neg hb2, if_neg (by simp; omega), if_neg (by simpa using hf2)]
                simp only [hk]
              rw [hT]
              exact J_cut [0, 4, 5, 9, 10] [0] [0] [] rfl rfl rfl rfl (refLoop hd rfl hq0 (by omega) (Nat.le_refl _))
end Go.Proofs.YtgelnbgjabpdbaaDoor
