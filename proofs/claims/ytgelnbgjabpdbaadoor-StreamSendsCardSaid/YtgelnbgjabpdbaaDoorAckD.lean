/- slices.DeleteFunc of messages, by number. -/
import Derived.Test.YtgelnbgjabpdbaaDoorCut
import Derived.Test.YtgelnbgjabpdbaaDoorTx14
import Derived.Test.YtgelnbgjabpdbaaDoorTk2
namespace Go.Proofs.YtgelnbgjabpdbaaDoor
open Go Go.Sx

theorem ack1 {w : World} {S : Nat → Prop} {m : MsgT} {v1 v2 : Value} {seq : Int} {b : Nat} (o1 : v1.oneCell' = true) (o2 : v2.oneCell' = true) (h : Rep w S (.pointer (some ⟨b, 0, none⟩)) (.ptr [.v (.int .i64 seq)])) : Calls Tryd.prog 36 #[mAgg m v1 v2, .pointer (some ⟨b, 0, none⟩)] w fun e w' => Ret [] w S w' e (.bool (decide (m.seq ≤ seq))) [] [] := by
  refine ep36 (args := [mAgg m v1 v2, .pointer (some ⟨b, 0, none⟩)]) (G := [(_, .ptr [.v (.int .i64 seq)])]) (by kernel_rfl) (.cons h (.nil _ _)) ?_
  refine J_glob 0 rfl (fun csg1 tyg1 fzg1 hglob1 => ?_)
  refine J_seq ?_
  refine J_reg mixed [.wr 0 [] 0, .rd 1 [] 0 0] [] [1, 2, 3] (E1 := fun nu1 => [(1, .val (.pointer (some (⟨b, 0, none⟩)))), (2, .val (.pointer (some (⟨nu1 0, 0, none⟩)))), (3, .val (.bool false))]) (h1 := fun nu1 => [(nu1 0, .cells #[.int .i64 m.fm, .int .i64 m.to, .int .i64 m.shard, .int .i64 m.seq, .int .i64 m.time, .bool m.beat, v1, .int .i64 m.c.place, v2] 37 (0, 0))]) (p1 := fun nu1 => []) (W1 := []) (by kernel_rfl) (fun _ => by kernel_rfl) (fun _ => trivial) (fun nu1 => ?_)
  refine J_seq ?_
  refine J_reg mixed [.rd 0 [] 0 0, .rd 1 [.o 0 none] 0 0, .rd 2 [.r 0 (some (.int .i64 seq))] 0 0, .rd 3 [] 0 0, .rd 4 [] 0 0] [] [3] (E1 := fun _ => [(3, .val (.bool (decide (m.seq ≤ seq))))]) (h1 := fun _ => [(nu1 0, .cells #[.int .i64 m.fm, .int .i64 m.to, .int .i64 m.shard, .int .i64 m.seq, .int .i64 m.time, .bool m.beat, v1, .int .i64 m.c.place, v2] 37 (0, 0))]) (p1 := fun _ => [csg1[(0 : Nat)]? = some (Value.int IntKind.i64 seq)]) (W1 := []) (by kernel_rfl) (fun _ => by kernel_rfl) (fun _ => ⟨hglob1, trivial⟩) (fun _ => ?_)
  refine J_return [[]] (.bool (decide (m.seq ≤ seq))) (by kernel_rfl) (fun a w s => ?_)
  all_goals first | assumption | exact s.ret (by simp) [] [] rfl rfl

theorem indexAck {w : World} {S : Nat → Prop} {M : List Nat} {a : Option Addr} {n c : Nat} {L : List MsgT} {seq : Int} {b : Nat} (hP : Pre w S M [cAcc (.slice a n c) 37 9 (L.map eMsg)]) (hl : L.length ≤ 1000000) (h : Rep w S (.pointer (some ⟨b, 0, none⟩)) (.ptr [.v (.int .i64 seq)])) :
    Calls Tryd.prog 44 #[.slice a n c, .func (.func 36) #[] #[.pointer (some ⟨b, 0, none⟩)]] w fun e w' => ∃ r : Int, Ret M w S w' e (.int .i64 r) [cAcc (.slice a n c) 37 9 (L.map eMsg)] [] ∧
      ((r = -1 ∧ ∀ x ∈ L, seq < x.seq) ∨ (0 ≤ r ∧ r < L.length ∧ (∃ x, L[r.toNat]? = some x ∧ x.seq ≤ seq) ∧ ∀ x ∈ L.take r.toNat, seq < x.seq)) := by
  refine en44 (args := [.slice a n c, .func (.func 36) #[] #[.pointer (some ⟨b, 0, none⟩)]]) (S := S) (C := [cAcc (.slice a n c) 37 9 (L.map eMsg)]) (G := [(_, .ptr [.v (.int .i64 seq)])]) (by kernel_rfl) hP (.cons h (.nil _ _)) ?_
  refine J_stpx (stp_acclen 0 rfl) fun _ hk => ?_
  rw [List.length_map] at hk
  subst hk
  refine J_seq ?_
  refine J_reg mixed [.rd 0 [] 0 0] [] [0, 1, 4] (E1 := fun _ => [(0, .val (.slice a L.length c)), (1, .val (.func (.func 36) #[] #[.pointer (some (⟨b, 0, none⟩))])), (4, .val (.int .i64 0))]) (h1 := fun _ => []) (p1 := fun _ => []) (W1 := []) (by kernel_rfl) (fun _ => by kernel_rfl) (fun _ => trivial) (fun _ => ?_)
  refine J_seq ?_
  refine J_seq ?_
  refine J_reg mixed [.rd 0 [] 0 0, .rd 1 [] 0 0, .rd 2 [] 0 0] [] [0, 1, 4, 7, 8] (E1 := fun _ => [(0, .val (.slice a L.length c)), (1, .val (.func (.func 36) #[] #[.pointer (some (⟨b, 0, none⟩))])), (4, .val (.int .i64 0)), (7, .val (.int .i64 (↑L.length : Int))), (8, .val (.int .i64 0))]) (h1 := fun _ => []) (p1 := fun _ => []) (W1 := []) (by kernel_rfl) (fun _ => by kernel_rfl) (fun _ => trivial) (fun _ => ?_)
  refine J_block ?_
  refine J_loopx (fun i : Int => [(0, .val (.slice a L.length c)), (1, .val (.func (.func 36) #[] #[.pointer (some (⟨b, 0, none⟩))])), (4, .val (.int .i64 0)), (7, .val (.int .i64 (↑L.length : Int))), (8, .val (.int .i64 i))]) (fun i : Int => []) (fun i : Int => [cAcc (.slice a L.length c) 37 9 (L.map eMsg)]) (fun i : Int => [(.pointer (some (⟨b, 0, none⟩)), (D.ptr [D.v (Value.int IntKind.i64 seq)]))]) (fun i : Int => (L.length - i).toNat) (fun i : Int => (0 ≤ i ∧ i ≤ L.length ∧ ∀ x ∈ L.take i.toNat, seq < x.seq)) 0 [0, 1, 4, 7, 8] [] [0] [0] ?_ (by kernel_rfl) rfl rfl rfl ?_
  · exact ⟨by simp, by omega, by simp⟩
  rintro i ⟨hi0, hi, hno⟩
  refine J_seq ?_
  refine J_reg mixed [.rd 0 [] 0 0] [] [0, 1, 4, 7, 8, 9] (E1 := fun _ => [(0, .val (.slice a L.length c)), (1, .val (.func (.func 36) #[] #[.pointer (some (⟨b, 0, none⟩))])), (4, .val (.int .i64 0)), (7, .val (.int .i64 (↑L.length : Int))), (8, .val (.int .i64 i)), (9, .val (.bool (decide (i < (↑L.length : Int)))))]) (h1 := fun _ => []) (p1 := fun _ => []) (W1 := []) (by kernel_rfl) (fun _ => by kernel_rfl) (fun _ => trivial) (fun _ => ?_)
  refine J_seq ?_
  refine J_cond (t := decide (i < (↑L.length : Int))) (by kernel_rfl) (by kernel_rfl) (fun hlt => ?_) (fun hlt => ?_)
  · have hlt2 : i < L.length := by simpa using hlt
    obtain ⟨x, hx⟩ : ∃ x, L[i.toNat]? = some x := ⟨_, List.getElem?_eq_getElem (by omega)⟩
    refine J_openacc 0 rfl (by intro h0; rw [List.map_eq_nil_iff] at h0; rw [h0] at hx; simp at hx) fun g cur xs hu _ _ hrow => ?_
    subst hu
    refine J_stpx (stp_readrows 0 rfl i.toNat (map_at hx)) fun ls hls => ?_
    obtain ⟨hls1, hls2⟩ := hls
    obtain ⟨⟨xa, xc⟩, ⟨ya, yc⟩, rfl⟩ : ∃ l0 l1, ls = [l0, l1] := len2 hls1
    have f := fun (j : Nat) v h => hrow.atx (hls2 j v h)
    have r0 : cur[0 + i.toNat * 9]? = some (.int .i64 x.fm) := by rw [Nat.zero_add]; exact f 0 _ rfl
    have r1 : cur[0 + i.toNat * 9 + 1]? = some (.int .i64 x.to) := by rw [Nat.zero_add]; exact f 1 _ rfl
    have r2 : cur[0 + i.toNat * 9 + 2]? = some (.int .i64 x.shard) := by rw [Nat.zero_add]; exact f 2 _ rfl
    have r3 : cur[0 + i.toNat * 9 + 3]? = some (.int .i64 x.seq) := by rw [Nat.zero_add]; exact f 3 _ rfl
    have r4 : cur[0 + i.toNat * 9 + 4]? = some (.int .i64 x.time) := by rw [Nat.zero_add]; exact f 4 _ rfl
    have r5 : cur[0 + i.toNat * 9 + 5]? = some (.bool x.beat) := by rw [Nat.zero_add]; exact f 5 _ rfl
    have r6 : cur[0 + i.toNat * 9 + 6]? = some (.slice xa (x.c.when.map eI).length xc) := by rw [Nat.zero_add]; exact f 6 _ rfl
    have r7 : cur[0 + i.toNat * 9 + 7]? = some (.int .i64 x.c.place) := by rw [Nat.zero_add]; exact f 7 _ rfl
    have r8 : cur[0 + i.toNat * 9 + 8]? = some (.slice ya (x.c.ops.map eOp).length yc) := by rw [Nat.zero_add]; exact f 8 _ rfl
    try simp only [List.cons_append, List.nil_append, List.append_nil]
    refine J_skip ?_
    try simp only [List.cons_append, List.nil_append, List.append_nil]
    refine J_seq ?_
    try simp only [List.cons_append, List.nil_append, List.append_nil]
    refine J_block ?_
    try simp only [List.cons_append, List.nil_append, List.append_nil]
    refine J_seq ?_
    try simp only [List.cons_append, List.nil_append, List.append_nil]
    refine J_reg mixed [.rd 0 [] 0 0, .rd 1 [] 0 0] [] [0, 1, 4, 5, 7, 8] (E1 := fun _ => [(0, .val (.slice (some (⟨g, 0, none⟩)) L.length c)), (1, .val (.func (.func 36) #[] #[.pointer (some (⟨b, 0, none⟩))])), (4, .val (.int .i64 0)), (5, .val (.int .i64 i)), (7, .val (.int .i64 (↑L.length : Int))), (8, .val (.int .i64 i))]) (h1 := fun _ => [(g, .cells cur 37 (0, 0))]) (p1 := fun _ => []) (W1 := []) (by kernel_rfl) (fun _ => by kernel_rfl) (fun _ => trivial) (fun _ => ?_)
    try simp only [List.cons_append, List.nil_append, List.append_nil]
    refine J_seq ?_
    try simp only [List.cons_append, List.nil_append, List.append_nil]
    refine JR_begin mixed [(0, true), (1, true), (2, true), (3, true), (4, true), (5, false)] [] (by kernel_rfl) (by kernel_rfl) ?_
    refine JR_run (id := 4) (rest := [(5, false)]) [.rd 0 [] 0 0, .rd 1 [] 0 0, .rd 2 [] 0 0, .rd 3 [] 0 2, .rd 4 [.o 0 (some (.int .i64 x.fm)), .o 0 (some (.int .i64 x.to)), .o 0 (some (.int .i64 x.shard)), .o 0 (some (.int .i64 x.seq)), .o 0 (some (.int .i64 x.time)), .o 0 (some (.bool x.beat)), .o 0 (some (.slice xa ((List.map eI x.c.when).length) xc)), .o 0 (some (.int .i64 x.c.place)), .o 0 (some (.slice ya ((List.map eOp x.c.ops).length) yc))] 0 0] [0, 1, 4, 5, 7, 8, 11, 15] (E1 := fun _ => [(0, .val (.slice (some (⟨g, 0, none⟩)) L.length c)), (1, .val (.func (.func 36) #[] #[.pointer (some (⟨b, 0, none⟩))])), (4, .val (.int .i64 0)), (5, .val (.int .i64 i)), (7, .val (.int .i64 (↑L.length : Int))), (8, .val (.int .i64 i)), (11, .val (.func (.func 36) #[] #[.pointer (some (⟨b, 0, none⟩))])), (15, .val (.agg #[.int .i64 x.fm, .int .i64 x.to, .int .i64 x.shard, .int .i64 x.seq, .int .i64 x.time, .bool x.beat, .slice xa ((List.map eI x.c.when).length) xc, .int .i64 x.c.place, .slice ya ((List.map eOp x.c.ops).length) yc]))]) (h1 := fun _ => [(g, .cells cur 37 (0, 0))]) (p1 := fun _ => [(0 : Int) ≤ i, i < (↑L.length : Int), cur[(0 : Nat) + i.toNat * (9 : Nat)]? = some (Value.int IntKind.i64 x.fm), cur[(0 : Nat) + i.toNat * (9 : Nat) + (1 : Nat)]? = some (Value.int IntKind.i64 x.to), cur[(0 : Nat) + i.toNat * (9 : Nat) + (2 : Nat)]? = some (Value.int IntKind.i64 x.shard), cur[(0 : Nat) + i.toNat * (9 : Nat) + (3 : Nat)]? = some (Value.int IntKind.i64 x.seq), cur[(0 : Nat) + i.toNat * (9 : Nat) + (4 : Nat)]? = some (Value.int IntKind.i64 x.time), cur[(0 : Nat) + i.toNat * (9 : Nat) + (5 : Nat)]? = some (Value.bool x.beat), cur[(0 : Nat) + i.toNat * (9 : Nat) + (6 : Nat)]? = some (Value.slice xa (List.map eI x.c.when).length xc), cur[(0 : Nat) + i.toNat * (9 : Nat) + (7 : Nat)]? = some (Value.int IntKind.i64 x.c.place), cur[(0 : Nat) + i.toNat * (9 : Nat) + (8 : Nat)]? = some (Value.slice ya (List.map eOp x.c.ops).length yc)]) (W1 := []) (fun _ => by kernel_rfl) (fun _ => ⟨hi0, hlt2, r0, r1, r2, r3, r4, r5, r6, r7, r8, trivial⟩) (fun _ => ?_)
    refine JR_callp [] 36 #[.agg #[.int .i64 x.fm, .int .i64 x.to, .int .i64 x.shard, .int .i64 x.seq, .int .i64 x.time, .bool x.beat, .slice xa ((List.map eI x.c.when).length) xc, .int .i64 x.c.place, .slice ya ((List.map eOp x.c.ops).length) yc], .pointer (some (⟨b, 0, none⟩))] (some 16) (by kernel_rfl) (fun w S hG => ?_)
    refine (ack1 (m := x) rfl rfl (hG.at 0 rfl)).mono ?_
    rintro e w2 hR
    refine ⟨_, _, _, hR, ?_⟩
    try simp only [List.cons_append, List.nil_append, List.append_nil]
    refine JR_end ?_
    try simp only [List.cons_append, List.nil_append, List.append_nil]
    refine J_hide 0 rfl ?_
    refine J_stp (stp_closeacc 1 0 rfl rfl hrow (by decide)) ?_
    rw [show (List.map eMsg L).length = L.length from List.length_map ..]
    refine J_cond (t := decide (x.seq ≤ seq)) (by kernel_rfl) (by kernel_rfl) (fun hb => ?_) (fun hb => ?_)
    · try simp only [List.cons_append, List.nil_append, List.append_nil]
      refine J_seq ?_
      try simp only [List.cons_append, List.nil_append, List.append_nil]
      refine J_reg mixed [.rd 0 [] 0 0, .rd 1 [] 0 0] [] [0, 1, 4, 5, 7, 8, 11, 15] (E1 := fun _ => [(0, .val (.slice (some (⟨g, 0, none⟩)) L.length c)), (1, .val (.func (.func 36) #[] #[.pointer (some (⟨b, 0, none⟩))])), (4, .val (.int .i64 i)), (5, .val (.int .i64 i)), (7, .val (.int .i64 (↑L.length : Int))), (8, .val (.int .i64 i)), (11, .val (.func (.func 36) #[] #[.pointer (some (⟨b, 0, none⟩))])), (15, .val (.agg #[.int .i64 x.fm, .int .i64 x.to, .int .i64 x.shard, .int .i64 x.seq, .int .i64 x.time, .bool x.beat, .slice xa ((List.map eI x.c.when).length) xc, .int .i64 x.c.place, .slice ya ((List.map eOp x.c.ops).length) yc]))]) (h1 := fun _ => []) (p1 := fun _ => []) (W1 := []) (by kernel_rfl) (fun _ => by kernel_rfl) (fun _ => trivial) (fun _ => ?_)
      try simp only [List.cons_append, List.nil_append, List.append_nil]
      refine J_return [[]] (.int .i64 i) (by kernel_rfl) (fun a w s => ?_)
      exact ⟨i, s.ret (by simp) [0] [] rfl rfl, .inr ⟨hi0, hlt2, ⟨x, hx, by simpa using hb⟩, hno⟩⟩
    · try simp only [List.cons_append, List.nil_append, List.append_nil]
      refine J_skip ?_
      try simp only [List.cons_append, List.nil_append, List.append_nil]
      refine J_eb ?_
      try simp only [List.cons_append, List.nil_append, List.append_nil]
      refine J_reg mixed [.rd 0 [] 0 1, .rd 1 [] 0 0] [] [0, 1, 4, 5, 7, 8, 11, 15] (E1 := fun _ => [(0, .val (.slice (some (⟨g, 0, none⟩)) L.length c)), (1, .val (.func (.func 36) #[] #[.pointer (some (⟨b, 0, none⟩))])), (4, .val (.int .i64 0)), (5, .val (.int .i64 i)), (7, .val (.int .i64 (↑L.length : Int))), (8, .val (.int .i64 (i + 1))), (11, .val (.func (.func 36) #[] #[.pointer (some (⟨b, 0, none⟩))])), (15, .val (.agg #[.int .i64 x.fm, .int .i64 x.to, .int .i64 x.shard, .int .i64 x.seq, .int .i64 x.time, .bool x.beat, .slice xa ((List.map eI x.c.when).length) xc, .int .i64 x.c.place, .slice ya ((List.map eOp x.c.ops).length) yc]))]) (h1 := fun _ => []) (p1 := fun _ => [IntKind.i64.wrap (i + (1 : Int)) = i + (1 : Int)]) (W1 := []) (by kernel_rfl) (fun _ => by kernel_rfl) (fun _ => ⟨wrap_i64 (by omega) (by omega), trivial⟩) (fun _ => ?_)
      try simp only [List.cons_append, List.nil_append, List.append_nil]
      refine J_backx (i + 1) [0, 1, 4, 7, 8] [] [0] [0] ?_ ?_ (by kernel_rfl) rfl rfl rfl
      · refine ⟨by omega, by omega, fun y hy => ?_⟩
        rw [← take_snoc hi0 hx, List.mem_append, List.mem_singleton] at hy
        rcases hy with hy | rfl
        · exact hno y hy
        · simpa using hb
      · omega
  · have e : List.take i.toNat L = L := List.take_of_length_le (by simp at hlt; omega)
    rw [e] at hno
    refine J_exit rfl ?_
    refine J_seq ?_
    refine J_reg mixed [.rd 0 [] 0 0] [] [4] (E1 := fun _ => [(4, .val (.int .i64 (-1)))]) (h1 := fun _ => []) (p1 := fun _ => []) (W1 := []) (by kernel_rfl) (fun _ => by kernel_rfl) (fun _ => trivial) (fun _ => ?_)
    refine J_return [[]] (.int .i64 (-1)) (by kernel_rfl) (fun a w s => ?_)
    exact ⟨-1, s.ret (by simp) [0] [] rfl rfl, .inl ⟨rfl, hno⟩⟩

def keepL (L : List MsgT) (seq : Int) : List MsgT := L.filter fun m => decide (seq < m.seq)
theorem keepL_all {L : List MsgT} {seq : Int} (h : ∀ x ∈ L, seq < x.seq) : keepL L seq = L := List.filter_eq_self.2 fun x hx => by simpa using h x hx
theorem keepL_snoc {L : List MsgT} {seq : Int} {x : MsgT} : keepL (L ++ [x]) seq = keepL L seq ++ if seq < x.seq then [x] else [] := by
  unfold keepL
  rw [List.filter_append]
  congr 1
  by_cases h : seq < x.seq <;> simp [h]
theorem set_take {L : List MsgT} {i : Nat} {x : MsgT} (hi : i < L.length) : (L.set i x).take (i + 1) = L.take i ++ [x] := by
  rw [List.take_add_one, List.take_set_of_le (Nat.le_refl _)]
  simp [hi]
theorem set_drop {L : List MsgT} {i j : Nat} {x : MsgT} (hi : i < j) : (L.set i x).drop j = L.drop j := List.drop_set_of_lt hi
structure DelS where
  i : Int
  j : Int
  cur : Array Value
  xs : List Value
  Lc : List MsgT
structure DelInv (L : List MsgT) (seq : Int) (i j : Int) (Lc : List MsgT) : Prop where
  len : Lc.length = L.length
  take : Lc.take i.toNat = keepL (L.take j.toNat) seq
  drop : Lc.drop j.toNat = L.drop j.toNat
theorem DelInv.at {L Lc : List MsgT} {seq i j : Int} {x : MsgT} (h : DelInv L seq i j Lc) (hx : L[j.toNat]? = some x) : Lc[j.toNat]? = some x := by
  have h1 : (Lc.drop j.toNat)[0]? = (L.drop j.toNat)[0]? := by rw [h.drop]
  rw [List.getElem?_drop, List.getElem?_drop, Nat.add_zero] at h1
  rw [h1, hx]
theorem DelInv.skip {L Lc : List MsgT} {seq i j : Int} {x : MsgT} (h : DelInv L seq i j Lc) (hj : 0 ≤ j) (hx : L[j.toNat]? = some x) (hk : ¬ seq < x.seq) : DelInv L seq i (j + 1) Lc := by
  refine ⟨h.len, ?_, ?_⟩
  · rw [h.take, ← take_snoc hj hx, keepL_snoc, if_neg hk, List.append_nil]
  · rw [show (j + 1).toNat = j.toNat + 1 by omega, ← List.drop_drop, ← List.drop_drop, h.drop]
theorem DelInv.keep {L Lc : List MsgT} {seq i j : Int} {x : MsgT} (h : DelInv L seq i j Lc) (hi : 0 ≤ i) (hij : i < j) (hj : j < L.length) (hx : L[j.toNat]? = some x) (hk : seq < x.seq) : DelInv L seq (i + 1) (j + 1) (Lc.set i.toNat x) := by
  refine ⟨by rw [List.length_set]; exact h.len, ?_, ?_⟩
  · rw [show (i + 1).toNat = i.toNat + 1 by omega, set_take (by have := h.len; omega), h.take, ← take_snoc (by omega) hx, keepL_snoc, if_pos hk]
  · rw [set_drop (by omega), show (j + 1).toNat = j.toNat + 1 by omega, ← List.drop_drop, ← List.drop_drop, h.drop]
set_option maxHeartbeats 4000000 in
theorem deleteAck {w : World} {S : Nat → Prop} {M : List Nat} {a : Option Addr} {n c : Nat} {L : List MsgT} {seq : Int} {b : Nat} (hP : Pre w S M [cAcc (.slice a n c) 37 9 (L.map eMsg)]) (hl : L.length ≤ 1000000) (h : Rep w S (.pointer (some ⟨b, 0, none⟩)) (.ptr [.v (.int .i64 seq)])) :
    Calls Tryd.prog 35 #[.slice a n c, .func (.func 36) #[] #[.pointer (some ⟨b, 0, none⟩)]] w fun e w' => ∃ a' n' c', Ret M w S w' e (.slice a' n' c') [cAcc (.slice a' n' c') 37 9 ((keepL L seq).map eMsg)] [] := by
  refine en35 (args := [.slice a n c, .func (.func 36) #[] #[.pointer (some ⟨b, 0, none⟩)]]) (S := S) (C := [cAcc (.slice a n c) 37 9 (L.map eMsg)]) (G := [(_, .ptr [.v (.int .i64 seq)])]) (by kernel_rfl) hP (.cons h (.nil _ _)) ?_
  refine J_stpx (stp_acclen 0 rfl) fun _ hk => ?_
  rw [List.length_map] at hk
  subst hk
  refine J_seq ?_
  refine J_reg mixed [.rd 0 [] 0 0] [] [0, 1, 4] (E1 := fun _ => [(0, .val (.slice a L.length c)), (1, .val (.func (.func 36) #[] #[.pointer (some (⟨b, 0, none⟩))])), (4, .val (.slice none 0 0))]) (h1 := fun _ => []) (p1 := fun _ => []) (W1 := []) (by kernel_rfl) (fun _ => by kernel_rfl) (fun _ => trivial) (fun _ => ?_)
  refine J_seq ?_
  refine JR_begin mixed [(0, true), (1, true), (2, false), (3, true)] [] (by kernel_rfl) (by kernel_rfl) ?_
  refine JR_run (id := 1) (rest := [(2, false), (3, true)]) [.rd 0 [] 0 0, .rd 1 [] 0 0] [0, 1, 4, 8, 9] (E1 := fun _ => [(0, .val (.slice a L.length c)), (1, .val (.func (.func 36) #[] #[.pointer (some (⟨b, 0, none⟩))])), (4, .val (.slice none 0 0)), (8, .val (.slice a L.length c)), (9, .val (.func (.func 36) #[] #[.pointer (some (⟨b, 0, none⟩))]))]) (h1 := fun _ => []) (p1 := fun _ => []) (W1 := []) (fun _ => by kernel_rfl) (fun _ => trivial) (fun _ => ?_)
  refine JR_call [] [0] 44 #[.slice a L.length c, .func (.func 36) #[] #[.pointer (some (⟨b, 0, none⟩))]] (some 10) (by kernel_rfl) (by kernel_rfl) (by decide) (fun w S M hP hG _ => ?_)
  refine (indexAck hP hl (hG.at 0 rfl)).mono ?_
  rintro e1 w1 ⟨r, hR, hr⟩
  refine ⟨_, _, _, hR, ?_⟩
  obtain ⟨rfl, hall⟩ | ⟨hr0, hr1, ⟨y, hy, hys⟩, hrn⟩ := hr
  · try simp only [List.cons_append, List.nil_append, List.append_nil]
    refine JR_run (id := 1) (rest := []) [.rd 3 [] 0 0] [0, 1, 4, 5] (E1 := fun _ => [(0, .val (.slice a L.length c)), (1, .val (.func (.func 36) #[] #[.pointer (some (⟨b, 0, none⟩))])), (4, .val (.slice none 0 0)), (5, .val (.int .i64 (-1)))]) (h1 := fun _ => []) (p1 := fun _ => []) (W1 := []) (fun _ => by kernel_rfl) (fun _ => trivial) (fun _ => ?_)
    try simp only [List.cons_append, List.nil_append, List.append_nil]
    refine JR_end ?_
    try simp only [List.cons_append, List.nil_append, List.append_nil]
    refine J_seq ?_
    try simp only [List.cons_append, List.nil_append, List.append_nil]
    refine J_seq ?_
    try simp only [List.cons_append, List.nil_append, List.append_nil]
    refine J_reg mixed [.rd 0 [] 0 0, .rd 1 [] 0 0] [] [0, 1, 4, 5, 12] (E1 := fun _ => [(0, .val (.slice a L.length c)), (1, .val (.func (.func 36) #[] #[.pointer (some (⟨b, 0, none⟩))])), (4, .val (.slice none 0 0)), (5, .val (.int .i64 (-1))), (12, .val (.bool true))]) (h1 := fun _ => []) (p1 := fun _ => []) (W1 := []) (by kernel_rfl) (fun _ => by kernel_rfl) (fun _ => trivial) (fun _ => ?_)
    try simp only [List.cons_append, List.nil_append, List.append_nil]
    refine J_cond_t (by kernel_rfl) (by kernel_rfl) ?_
    try simp only [List.cons_append, List.nil_append, List.append_nil]
    refine J_seq ?_
    try simp only [List.cons_append, List.nil_append, List.append_nil]
    refine J_reg mixed [.rd 0 [] 0 0, .rd 1 [] 0 0] [] [0, 1, 4, 5] (E1 := fun _ => [(0, .val (.slice a L.length c)), (1, .val (.func (.func 36) #[] #[.pointer (some (⟨b, 0, none⟩))])), (4, .val (.slice a L.length c)), (5, .val (.int .i64 (-1)))]) (h1 := fun _ => []) (p1 := fun _ => []) (W1 := []) (by kernel_rfl) (fun _ => by kernel_rfl) (fun _ => trivial) (fun _ => ?_)
    try simp only [List.cons_append, List.nil_append, List.append_nil]
    refine J_return [[]] (.slice a L.length c) (by kernel_rfl) (fun a w s => ?_)
    rw [keepL_all hall]
    exact ⟨_, _, _, s.ret (by simp) [0] [] rfl rfl⟩
  · have hrm : ¬ r = -1 := by omega
    try simp only [List.cons_append, List.nil_append, List.append_nil]
    refine JR_run (id := 1) (rest := []) [.rd 3 [] 0 0] [0, 1, 4, 5] (E1 := fun _ => [(0, .val (.slice a L.length c)), (1, .val (.func (.func 36) #[] #[.pointer (some (⟨b, 0, none⟩))])), (4, .val (.slice none 0 0)), (5, .val (.int .i64 r))]) (h1 := fun _ => []) (p1 := fun _ => []) (W1 := []) (fun _ => by kernel_rfl) (fun _ => trivial) (fun _ => ?_)
    try simp only [List.cons_append, List.nil_append, List.append_nil]
    refine JR_end ?_
    try simp only [List.cons_append, List.nil_append, List.append_nil]
    refine J_seq ?_
    try simp only [List.cons_append, List.nil_append, List.append_nil]
    refine J_seq ?_
    try simp only [List.cons_append, List.nil_append, List.append_nil]
    refine J_reg mixed [.rd 0 [] 0 0, .rd 1 [] 0 7] [] [0, 1, 4, 5, 12] (E1 := fun _ => [(0, .val (.slice a L.length c)), (1, .val (.func (.func 36) #[] #[.pointer (some (⟨b, 0, none⟩))])), (4, .val (.slice none 0 0)), (5, .val (.int .i64 r)), (12, .val (.bool false))]) (h1 := fun _ => []) (p1 := fun _ => [(r == (-1 : Int)) = false]) (W1 := []) (by kernel_rfl) (fun _ => by kernel_rfl) (fun _ => ⟨by simp; omega, trivial⟩) (fun _ => ?_)
    try simp only [List.cons_append, List.nil_append, List.append_nil]
    refine J_cond_f (by kernel_rfl) (by kernel_rfl) ?_
    try simp only [List.cons_append, List.nil_append, List.append_nil]
    refine J_skip ?_
    try simp only [List.cons_append, List.nil_append, List.append_nil]
    refine J_seq ?_
    try simp only [List.cons_append, List.nil_append, List.append_nil]
    refine J_seq ?_
    try simp only [List.cons_append, List.nil_append, List.append_nil]
    refine J_reg mixed [.rd 0 [] 0 0, .rd 1 [] 0 1, .rd 2 [] 0 0] [] [0, 1, 4, 5, 6] (E1 := fun _ => [(0, .val (.slice a L.length c)), (1, .val (.func (.func 36) #[] #[.pointer (some (⟨b, 0, none⟩))])), (4, .val (.slice none 0 0)), (5, .val (.int .i64 r)), (6, .val (.int .i64 (r + 1)))]) (h1 := fun _ => []) (p1 := fun _ => [IntKind.i64.wrap (r + (1 : Int)) = r + (1 : Int)]) (W1 := []) (by kernel_rfl) (fun _ => by kernel_rfl) (fun _ => ⟨wrap_i64 (by omega) (by omega), trivial⟩) (fun _ => ?_)
    try simp only [List.cons_append, List.nil_append, List.append_nil]
    refine J_block ?_
    try simp only [List.cons_append, List.nil_append, List.append_nil]
    refine J_openacc 0 rfl (by intro h0; rw [List.map_eq_nil_iff] at h0; rw [h0] at hy; simp at hy) fun g cur0 xs0 hu _ _ hrow0 => ?_
    subst hu
    rw [List.length_map] at hrow0
    have hcap : L.length ≤ c := hrow0.le
    have hk0 : (L.take (r + 1).toNat).filter (fun m => decide (seq < m.seq)) = L.take r.toNat := by
      have := keepL_snoc (L := L.take r.toNat) (seq := seq) (x := y)
      rw [take_snoc hr0 hy, keepL_all hrn, if_neg (by omega), List.append_nil] at this
      exact this
    refine J_loopx (fun x : DelS => [(0, .val (.slice (some (⟨g, 0, none⟩)) L.length c)), (1, .val (.func (.func 36) #[] #[.pointer (some (⟨b, 0, none⟩))])), (4, .val (.slice none 0 0)), (5, .val (.int .i64 x.i)), (6, .val (.int .i64 x.j))]) (fun x : DelS => [(g, .cells x.cur 37 (0, 0))]) (fun x : DelS => [cRows x.xs 9 (x.Lc.map eMsg)]) (fun x : DelS => [(.pointer (some (⟨b, 0, none⟩)), (D.ptr [D.v (Value.int IntKind.i64 seq)]))]) (fun x : DelS => (L.length - x.j).toNat) (fun x : DelS => (0 ≤ x.i ∧ x.i < x.j ∧ x.j ≤ L.length ∧ Row x.cur c L.length 9 x.xs ∧ DelInv L seq x.i x.j x.Lc)) ⟨r, r + 1, cur0, xs0, L⟩ [0, 1, 4, 5, 6] [0] [0] [0] ?_ (by kernel_rfl) rfl rfl rfl ?_
    · exact ⟨hr0, by simp only; omega, by simp only; omega, hrow0, ⟨rfl, hk0.symm, rfl⟩⟩
    rintro ⟨i, j, cu, xs, Lc⟩ ⟨hi0, hij, hj, hrow, hinv⟩
    dsimp only at hi0 hij hj hrow hinv ⊢
    refine J_seq ?_
    refine J_seq ?_
    refine J_reg mixed [.rd 0 [] 0 0, .rd 1 [] 0 0, .rd 2 [] 0 0, .rd 3 [] 0 0] [] [0, 1, 4, 5, 6, 19] (E1 := fun _ => [(0, .val (.slice (some (⟨g, 0, none⟩)) L.length c)), (1, .val (.func (.func 36) #[] #[.pointer (some (⟨b, 0, none⟩))])), (4, .val (.slice none 0 0)), (5, .val (.int .i64 i)), (6, .val (.int .i64 j)), (19, .val (.bool (decide (j < (↑L.length : Int)))))]) (h1 := fun _ => [(g, .cells cu 37 (0, 0))]) (p1 := fun _ => []) (W1 := []) (by kernel_rfl) (fun _ => by kernel_rfl) (fun _ => trivial) (fun _ => ?_)
    refine J_cond (t := decide (j < (↑L.length : Int))) (by kernel_rfl) (by kernel_rfl) (fun hlt => ?_) (fun hlt => ?_)
    · have hlt2 : j < L.length := by simpa using hlt
      obtain ⟨x, hx⟩ : ∃ x, L[j.toNat]? = some x := ⟨_, List.getElem?_eq_getElem (by omega)⟩
      have hxc := hinv.at hx
      refine J_stpx (stp_readrows 0 rfl j.toNat (map_at hxc)) fun ls hls => ?_
      obtain ⟨hls1, hls2⟩ := hls
      obtain ⟨⟨xa, xc⟩, ⟨ya, yc⟩, rfl⟩ : ∃ l0 l1, ls = [l0, l1] := len2 hls1
      have f := fun (j : Nat) v h => hrow.atx (hls2 j v h)
      have r0 : cu[0 + j.toNat * 9]? = some (.int .i64 x.fm) := by rw [Nat.zero_add]; exact f 0 _ rfl
      have r1 : cu[0 + j.toNat * 9 + 1]? = some (.int .i64 x.to) := by rw [Nat.zero_add]; exact f 1 _ rfl
      have r2 : cu[0 + j.toNat * 9 + 2]? = some (.int .i64 x.shard) := by rw [Nat.zero_add]; exact f 2 _ rfl
      have r3 : cu[0 + j.toNat * 9 + 3]? = some (.int .i64 x.seq) := by rw [Nat.zero_add]; exact f 3 _ rfl
      have r4 : cu[0 + j.toNat * 9 + 4]? = some (.int .i64 x.time) := by rw [Nat.zero_add]; exact f 4 _ rfl
      have r5 : cu[0 + j.toNat * 9 + 5]? = some (.bool x.beat) := by rw [Nat.zero_add]; exact f 5 _ rfl
      have r6 : cu[0 + j.toNat * 9 + 6]? = some (.slice xa (x.c.when.map eI).length xc) := by rw [Nat.zero_add]; exact f 6 _ rfl
      have r7 : cu[0 + j.toNat * 9 + 7]? = some (.int .i64 x.c.place) := by rw [Nat.zero_add]; exact f 7 _ rfl
      have r8 : cu[0 + j.toNat * 9 + 8]? = some (.slice ya (x.c.ops.map eOp).length yc) := by rw [Nat.zero_add]; exact f 8 _ rfl
      try simp only [List.cons_append, List.nil_append, List.append_nil]
      refine J_skip ?_
      refine J_seq ?_
      refine J_block ?_
      refine J_seq ?_
      refine J_reg mixed [.rd 0 [] 0 0, .rd 1 [] 0 0, .rd 2 [] 0 2, .rd 3 [.o 0 (some (.int .i64 x.fm)), .o 0 (some (.int .i64 x.to)), .o 0 (some (.int .i64 x.shard)), .o 0 (some (.int .i64 x.seq)), .o 0 (some (.int .i64 x.time)), .o 0 (some (.bool x.beat)), .o 0 (some (.slice xa ((List.map eI x.c.when).length) xc)), .o 0 (some (.int .i64 x.c.place)), .o 0 (some (.slice ya ((List.map eOp x.c.ops).length) yc))] 0 0, .wr 4 [] 0, .wr 5 [.o 1 none, .o 1 none, .o 1 none, .o 1 none, .o 1 none, .o 1 none, .o 1 none, .o 1 none, .o 1 none] 0] [(5, [])] [0, 1, 4, 5, 6, 7] (E1 := fun nu1 => [(0, .val (.slice (some (⟨g, 0, none⟩)) L.length c)), (1, .val (.func (.func 36) #[] #[.pointer (some (⟨b, 0, none⟩))])), (4, .val (.slice none 0 0)), (5, .val (.int .i64 i)), (6, .val (.int .i64 j)), (7, .val (.pointer (some (⟨nu1 0, 0, none⟩))))]) (h1 := fun nu1 => [(g, .cells cu 37 (0, 0)), (nu1 0, .cells #[.int .i64 x.fm, .int .i64 x.to, .int .i64 x.shard, .int .i64 x.seq, .int .i64 x.time, .bool x.beat, .slice xa ((List.map eI x.c.when).length) xc, .int .i64 x.c.place, .slice ya ((List.map eOp x.c.ops).length) yc] 37 (0, 0))]) (p1 := fun nu1 => [(0 : Int) ≤ j, j < (↑L.length : Int), cu[(0 : Nat) + j.toNat * (9 : Nat)]? = some (Value.int IntKind.i64 x.fm), cu[(0 : Nat) + j.toNat * (9 : Nat) + (1 : Nat)]? = some (Value.int IntKind.i64 x.to), cu[(0 : Nat) + j.toNat * (9 : Nat) + (2 : Nat)]? = some (Value.int IntKind.i64 x.shard), cu[(0 : Nat) + j.toNat * (9 : Nat) + (3 : Nat)]? = some (Value.int IntKind.i64 x.seq), cu[(0 : Nat) + j.toNat * (9 : Nat) + (4 : Nat)]? = some (Value.int IntKind.i64 x.time), cu[(0 : Nat) + j.toNat * (9 : Nat) + (5 : Nat)]? = some (Value.bool x.beat), cu[(0 : Nat) + j.toNat * (9 : Nat) + (6 : Nat)]? = some (Value.slice xa (List.map eI x.c.when).length xc), cu[(0 : Nat) + j.toNat * (9 : Nat) + (7 : Nat)]? = some (Value.int IntKind.i64 x.c.place), cu[(0 : Nat) + j.toNat * (9 : Nat) + (8 : Nat)]? = some (Value.slice ya (List.map eOp x.c.ops).length yc)]) (W1 := []) (by kernel_rfl) (fun _ => by kernel_rfl) (fun _ => ⟨by omega, hlt2, r0, r1, r2, r3, r4, r5, r6, r7, r8, trivial⟩) (fun nu1 => ?_)
      refine J_seq ?_
      refine JR_begin mixed [(0, true), (1, true), (2, false), (3, true)] [] (by kernel_rfl) (by kernel_rfl) ?_
      refine JR_run (id := 8) (rest := [(2, false), (3, true)]) [.rd 0 [] 0 0, .rd 1 [.o 1 none, .o 1 none, .o 1 none, .o 1 none, .o 1 none, .o 1 none, .o 1 none, .o 1 none, .o 1 none] 0 0] [0, 1, 4, 5, 6, 7, 26, 27] (E1 := fun _ => [(0, .val (.slice (some (⟨g, 0, none⟩)) L.length c)), (1, .val (.func (.func 36) #[] #[.pointer (some (⟨b, 0, none⟩))])), (4, .val (.slice none 0 0)), (5, .val (.int .i64 i)), (6, .val (.int .i64 j)), (7, .val (.pointer (some (⟨nu1 0, 0, none⟩)))), (26, .val (.func (.func 36) #[] #[.pointer (some (⟨b, 0, none⟩))])), (27, .val (.agg #[.int .i64 x.fm, .int .i64 x.to, .int .i64 x.shard, .int .i64 x.seq, .int .i64 x.time, .bool x.beat, .slice xa ((List.map eI x.c.when).length) xc, .int .i64 x.c.place, .slice ya ((List.map eOp x.c.ops).length) yc]))]) (h1 := fun _ => [(g, .cells cu 37 (0, 0)), (nu1 0, .cells #[.int .i64 x.fm, .int .i64 x.to, .int .i64 x.shard, .int .i64 x.seq, .int .i64 x.time, .bool x.beat, .slice xa ((List.map eI x.c.when).length) xc, .int .i64 x.c.place, .slice ya ((List.map eOp x.c.ops).length) yc] 37 (0, 0))]) (p1 := fun _ => []) (W1 := []) (fun _ => by kernel_rfl) (fun _ => trivial) (fun _ => ?_)
      refine JR_callp [] 36 #[.agg #[.int .i64 x.fm, .int .i64 x.to, .int .i64 x.shard, .int .i64 x.seq, .int .i64 x.time, .bool x.beat, .slice xa ((List.map eI x.c.when).length) xc, .int .i64 x.c.place, .slice ya ((List.map eOp x.c.ops).length) yc], .pointer (some (⟨b, 0, none⟩))] (some 28) (by kernel_rfl) (fun w S hG => ?_)
      refine (ack1 (m := x) rfl rfl (hG.at 0 rfl)).mono ?_
      rintro e w2 hR
      refine ⟨_, _, _, hR, ?_⟩
      try simp only [List.cons_append, List.nil_append, List.append_nil]
      refine JR_run (id := 8) (rest := []) [.rd 3 [] 0 0] [0, 1, 4, 5, 6, 7, 29] (E1 := fun _ => [(0, .val (.slice (some (⟨g, 0, none⟩)) L.length c)), (1, .val (.func (.func 36) #[] #[.pointer (some (⟨b, 0, none⟩))])), (4, .val (.slice none 0 0)), (5, .val (.int .i64 i)), (6, .val (.int .i64 j)), (7, .val (.pointer (some (⟨nu1 0, 0, none⟩)))), (29, .val (.bool (!decide (x.seq ≤ seq))))]) (h1 := fun _ => [(g, .cells cu 37 (0, 0)), (nu1 0, .cells #[.int .i64 x.fm, .int .i64 x.to, .int .i64 x.shard, .int .i64 x.seq, .int .i64 x.time, .bool x.beat, .slice xa ((List.map eI x.c.when).length) xc, .int .i64 x.c.place, .slice ya ((List.map eOp x.c.ops).length) yc] 37 (0, 0))]) (p1 := fun _ => []) (W1 := []) (fun _ => by kernel_rfl) (fun _ => trivial) (fun _ => ?_)
      refine JR_end ?_
      refine J_cond (t := !decide (x.seq ≤ seq)) (by kernel_rfl) (by kernel_rfl) (fun hb => ?_) (fun hb => ?_)
      · have hkeep : seq < x.seq := by simpa using hb
        have hsz := hrow.siz
        have hll := hinv.len
        have hi9 : 0 + i.toNat * 9 + 9 ≤ cu.size := by omega
        refine J_seq ?_
        refine JR_begin mixed [(0, true), (1, true), (2, true), (3, true), (4, false)] [] (by kernel_rfl) (by kernel_rfl) ?_
        refine JR_run (id := 9) (rest := [(4, false)]) [.rd 0 [] 0 0, .rd 1 [] 0 0, .rd 2 [.o 1 none, .o 1 none, .o 1 none, .o 1 none, .o 1 none, .o 1 none, .o 1 none, .o 1 none, .o 1 none] 0 0, .rd 3 [] 0 2] [0, 1, 4, 5, 6, 7, 32, 33] (E1 := fun _ => [(0, .val (.slice (some (⟨g, 0, none⟩)) L.length c)), (1, .val (.func (.func 36) #[] #[.pointer (some (⟨b, 0, none⟩))])), (4, .val (.slice none 0 0)), (5, .val (.int .i64 i)), (6, .val (.int .i64 j)), (7, .val (.pointer (some (⟨nu1 0, 0, none⟩)))), (32, .val (.agg #[.int .i64 x.fm, .int .i64 x.to, .int .i64 x.shard, .int .i64 x.seq, .int .i64 x.time, .bool x.beat, .slice xa ((List.map eI x.c.when).length) xc, .int .i64 x.c.place, .slice ya ((List.map eOp x.c.ops).length) yc])), (33, .val (.pointer (some (⟨g, 0 + i.toNat * 9, none⟩))))]) (h1 := fun _ => [(g, .cells cu 37 (0, 0)), (nu1 0, .cells #[.int .i64 x.fm, .int .i64 x.to, .int .i64 x.shard, .int .i64 x.seq, .int .i64 x.time, .bool x.beat, .slice xa ((List.map eI x.c.when).length) xc, .int .i64 x.c.place, .slice ya ((List.map eOp x.c.ops).length) yc] 37 (0, 0))]) (p1 := fun _ => [(0 : Int) ≤ i, i < (↑L.length : Int)]) (W1 := []) (fun _ => by kernel_rfl) (fun _ => ⟨hi0, by omega, trivial⟩) (fun _ => ?_)
        refine JR_storerow 0 g (0 + i.toNat * 9) 37 37 (.agg #[.int .i64 x.fm, .int .i64 x.to, .int .i64 x.shard, .int .i64 x.seq, .int .i64 x.time, .bool x.beat, .slice xa ((List.map eI x.c.when).length) xc, .int .i64 x.c.place, .slice ya ((List.map eOp x.c.ops).length) yc]) [.int .i64 x.fm, .int .i64 x.to, .int .i64 x.shard, .int .i64 x.seq, .int .i64 x.time, .bool x.beat, .slice xa ((List.map eI x.c.when).length) xc, .int .i64 x.c.place, .slice ya ((List.map eOp x.c.ops).length) yc] none (by kernel_rfl) (by kernel_rfl) (by kernel_rfl) rfl rfl rfl hi9 (by simp [Value.oneCell']) ?_
        refine JR_end ?_
        rw [Nat.zero_add]
        refine J_stp (stp_putrow 0 i.toNat (vs := [.int .i64 x.fm, .int .i64 x.to, .int .i64 x.shard, .int .i64 x.seq, .int .i64 x.time, .bool x.beat, .slice xa (x.c.when.map eI).length xc, .int .i64 x.c.place, .slice ya (x.c.ops.map eOp).length yc]) (row := eMsg x) rfl (by rw [hrow.len, List.length_map, hll]) (by rw [List.length_map]; omega) rfl ⟨.inl ⟨rfl, rfl⟩, .inl ⟨rfl, rfl⟩, .inl ⟨rfl, rfl⟩, .inl ⟨rfl, rfl⟩, .inl ⟨rfl, rfl⟩, .inl ⟨rfl, rfl⟩, .inr (.inl (List.mem_of_getElem? (i := 1) rfl)), .inl ⟨rfl, rfl⟩, .inr (.inl (List.mem_of_getElem? (i := 2) rfl)), trivial⟩) ?_
        rw [show (List.map eMsg Lc).set i.toNat (eMsg x) = List.map eMsg (Lc.set i.toNat x) from List.map_set.symm]
        refine J_reg mixed [.rd 0 [] 0 0, .rd 1 [] 0 1, .rd 2 [] 0 0] [] [0, 1, 4, 5, 6, 7, 32, 33] (E1 := fun _ => [(0, .val (.slice (some (⟨g, 0, none⟩)) L.length c)), (1, .val (.func (.func 36) #[] #[.pointer (some (⟨b, 0, none⟩))])), (4, .val (.slice none 0 0)), (5, .val (.int .i64 (i + 1))), (6, .val (.int .i64 j)), (7, .val (.pointer (some (⟨nu1 0, 0, none⟩)))), (32, .val (.agg #[.int .i64 x.fm, .int .i64 x.to, .int .i64 x.shard, .int .i64 x.seq, .int .i64 x.time, .bool x.beat, .slice xa ((List.map eI x.c.when).length) xc, .int .i64 x.c.place, .slice ya ((List.map eOp x.c.ops).length) yc])), (33, .val (.pointer (some (⟨g, i.toNat * 9, none⟩))))]) (h1 := fun _ => [(g, .cells (seg cu (i.toNat * 9) [Value.int IntKind.i64 x.fm, Value.int IntKind.i64 x.to, Value.int IntKind.i64 x.shard, Value.int IntKind.i64 x.seq, Value.int IntKind.i64 x.time, Value.bool x.beat, Value.slice xa (List.map eI x.c.when).length xc, Value.int IntKind.i64 x.c.place, Value.slice ya (List.map eOp x.c.ops).length yc]) 37 (0, 0)), (nu1 0, .cells #[.int .i64 x.fm, .int .i64 x.to, .int .i64 x.shard, .int .i64 x.seq, .int .i64 x.time, .bool x.beat, .slice xa ((List.map eI x.c.when).length) xc, .int .i64 x.c.place, .slice ya ((List.map eOp x.c.ops).length) yc] 37 (0, 0))]) (p1 := fun _ => [IntKind.i64.wrap (i + (1 : Int)) = i + (1 : Int)]) (W1 := []) (by kernel_rfl) (fun _ => by kernel_rfl) (fun _ => ⟨wrap_i64 (by omega) (by omega), trivial⟩) (fun _ => ?_)
        refine J_eb ?_
        refine J_reg mixed [.rd 0 [] 0 0, .rd 1 [] 0 1, .rd 2 [] 0 0] [] [0, 1, 4, 5, 6, 7, 32, 33] (E1 := fun _ => [(0, .val (.slice (some (⟨g, 0, none⟩)) L.length c)), (1, .val (.func (.func 36) #[] #[.pointer (some (⟨b, 0, none⟩))])), (4, .val (.slice none 0 0)), (5, .val (.int .i64 (i + 1))), (6, .val (.int .i64 (j + 1))), (7, .val (.pointer (some (⟨nu1 0, 0, none⟩)))), (32, .val (.agg #[.int .i64 x.fm, .int .i64 x.to, .int .i64 x.shard, .int .i64 x.seq, .int .i64 x.time, .bool x.beat, .slice xa ((List.map eI x.c.when).length) xc, .int .i64 x.c.place, .slice ya ((List.map eOp x.c.ops).length) yc])), (33, .val (.pointer (some (⟨g, i.toNat * 9, none⟩))))]) (h1 := fun _ => [(g, .cells (seg cu (i.toNat * 9) [Value.int IntKind.i64 x.fm, Value.int IntKind.i64 x.to, Value.int IntKind.i64 x.shard, Value.int IntKind.i64 x.seq, Value.int IntKind.i64 x.time, Value.bool x.beat, Value.slice xa (List.map eI x.c.when).length xc, Value.int IntKind.i64 x.c.place, Value.slice ya (List.map eOp x.c.ops).length yc]) 37 (0, 0)), (nu1 0, .cells #[.int .i64 x.fm, .int .i64 x.to, .int .i64 x.shard, .int .i64 x.seq, .int .i64 x.time, .bool x.beat, .slice xa ((List.map eI x.c.when).length) xc, .int .i64 x.c.place, .slice ya ((List.map eOp x.c.ops).length) yc] 37 (0, 0))]) (p1 := fun _ => [IntKind.i64.wrap (j + (1 : Int)) = j + (1 : Int)]) (W1 := []) (by kernel_rfl) (fun _ => by kernel_rfl) (fun _ => ⟨wrap_i64 (by omega) (by omega), trivial⟩) (fun _ => ?_)
        refine J_backx ⟨i + 1, j + 1, _, _, Lc.set i.toNat x⟩ [0, 1, 4, 5, 6] [0] [0] [0] ?_ ?_ (by kernel_rfl) rfl rfl rfl
        · exact ⟨by simp only; omega, by simp only; omega, by simp only; omega, hrow.turn (by omega) rfl, hinv.keep hi0 hij hlt2 hx hkeep⟩
        · simp only
          omega
      · have hdel : ¬ seq < x.seq := by simpa using hb
        refine J_skip ?_
        refine J_eb ?_
        refine J_reg mixed [.rd 0 [] 0 0, .rd 1 [] 0 1, .rd 2 [] 0 0] [] [0, 1, 4, 5, 6, 7] (E1 := fun _ => [(0, .val (.slice (some (⟨g, 0, none⟩)) L.length c)), (1, .val (.func (.func 36) #[] #[.pointer (some (⟨b, 0, none⟩))])), (4, .val (.slice none 0 0)), (5, .val (.int .i64 i)), (6, .val (.int .i64 (j + 1))), (7, .val (.pointer (some (⟨nu1 0, 0, none⟩))))]) (h1 := fun _ => [(g, .cells cu 37 (0, 0)), (nu1 0, .cells #[.int .i64 x.fm, .int .i64 x.to, .int .i64 x.shard, .int .i64 x.seq, .int .i64 x.time, .bool x.beat, .slice xa ((List.map eI x.c.when).length) xc, .int .i64 x.c.place, .slice ya ((List.map eOp x.c.ops).length) yc] 37 (0, 0))]) (p1 := fun _ => [IntKind.i64.wrap (j + (1 : Int)) = j + (1 : Int)]) (W1 := []) (by kernel_rfl) (fun _ => by kernel_rfl) (fun _ => ⟨wrap_i64 (by omega) (by omega), trivial⟩) (fun _ => ?_)
        refine J_backx ⟨i, j + 1, cu, xs, Lc⟩ [0, 1, 4, 5, 6] [0] [0] [0] ?_ ?_ (by kernel_rfl) rfl rfl rfl
        · exact ⟨hi0, by simp only; omega, by simp only; omega, hrow, hinv.skip (by omega) hx hdel⟩
        · simp only
          omega
    · have hjl : j = L.length := by simp at hlt; omega
      have hsz := hrow.siz
      have hll := hinv.len
      have hil : i < L.length := by omega
      have hic : i < c := by omega
      have hfin : Lc.take i.toNat = keepL L seq := by
        rw [hinv.take, hjl, List.take_of_length_le (by simp)]
      have hcl : 0 + i.toNat * 9 + (L.length - i.toNat) * 9 ≤ cu.size := by omega
      refine J_exit rfl ?_
      refine J_seq ?_
      refine JR_begin mixed [(0, true), (1, true), (2, true), (3, false)] [] (by kernel_rfl) (by kernel_rfl) ?_
      refine JR_run (id := 11) (rest := [(3, false)]) [.rd 0 [] 0 0, .rd 1 [] 0 0, .rd 2 [] 0 4] [0, 4, 5, 38] (E1 := fun _ => [(0, .val (.slice (some (⟨g, 0, none⟩)) L.length c)), (4, .val (.slice none 0 0)), (5, .val (.int .i64 i)), (38, .val (.slice (some (⟨g, 0 + i.toNat * 9, none⟩)) (L.length - i.toNat) (c - i.toNat)))]) (h1 := fun _ => [(g, .cells cu 37 (0, 0))]) (p1 := fun _ => [(0 : Int) ≤ i, i ≤ (↑L.length : Int), i < (↑c : Int)]) (W1 := []) (fun _ => by kernel_rfl) (fun _ => ⟨hi0, by omega, hic, trivial⟩) (fun _ => ?_)
      refine JR_clear (size := 9) (bytes := 104) 0 g (0 + i.toNat * 9) (L.length - i.toNat) (c - i.toNat) 32 37 (.agg #[.int .i64 0, .int .i64 0, .int .i64 0, .int .i64 0, .int .i64 0, .bool false, .slice none 0 0, .int .i64 0, .slice none 0 0]) none (by kernel_rfl) (by kernel_rfl) (by kernel_rfl) (by kernel_rfl) (by omega) rfl rfl hcl (by simp [Value.cells, Value.oneCell']) (fun vs1 hvs1 => ?_)
      refine JR_end ?_
      refine J_seq ?_
      rw [Nat.zero_add]
      refine J_stp (stp_cutrows 0 i.toNat rfl) ?_
      refine J_hide 0 rfl ?_
      refine J_norm (C' := [(cRows (List.take (i.toNat * 9) xs) 9 (List.take i.toNat (List.map eMsg Lc))), cObj g (.cells (seg cu (i.toNat * 9) vs1) 37 (0, 0))]) (G' := [(.pointer (some (⟨b, 0, none⟩)), (D.ptr [D.v (Value.int IntKind.i64 seq)]))]) (by kernel_rfl) (by kernel_rfl) ?_
      rw [show List.take i.toNat (List.map eMsg Lc) = List.map eMsg (keepL L seq) by rw [← List.map_take, hfin]]
      have hrow2 := hrow.clr (i := i.toNat) (by omega) hvs1
      have hkl : (List.map eMsg (keepL L seq)).length = i.toNat := by rw [← hfin]; simp; omega
      refine J_stp (stp_closeacc 1 0 rfl rfl (by rw [hkl]; exact hrow2) (by decide)) ?_
      rw [hkl]
      try simp only [List.cons_append, List.nil_append, List.append_nil]
      refine J_reg mixed [.rd 0 [] 0 0, .rd 1 [] 0 0, .rd 2 [] 0 4, .rd 3 [] 0 0] [] [4] (E1 := fun _ => [(4, .val (.slice (some (⟨g, 0, none⟩)) i.toNat c))]) (h1 := fun _ => []) (p1 := fun _ => [(0 : Int) ≤ i, i ≤ (↑c : Int)]) (W1 := []) (by kernel_rfl) (fun _ => by kernel_rfl) (fun _ => ⟨hi0, by omega, trivial⟩) (fun _ => ?_)
      try simp only [List.cons_append, List.nil_append, List.append_nil]
      refine J_return [[]] (.slice (some (⟨g, 0, none⟩)) i.toNat c) (by kernel_rfl) (fun a w s => ?_)
      exact ⟨_, _, _, s.ret (by simp) [0] [] rfl rfl⟩
end Go.Proofs.YtgelnbgjabpdbaaDoor
