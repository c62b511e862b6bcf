/- causewayref2: Sender. -/
import Derived.Test.YtgelnbgjabpdbaaDoorSend3
namespace Go.Proofs.YtgelnbgjabpdbaaDoor
open Go Go.Sx

abbrev rsCells (fm to sh q t : Int) (l : Value) : Obj := .cells #[.int .i64 fm, .int .i64 to, .int .i64 sh, .int .i64 q, .int .i64 t, l] 64 (0, 0)
theorem rnext {w0 : World} {S : Nat → Prop} {M : List Nat} {b : Nat} {fm to sh q t time : Int} {beat : Bool} {a : Option Addr} {k cc : Nat} {L : List MsgT} {c : ComT} {a1 a2 : Option Addr} {n1 c1 n2 c2 : Nat}
    (hP : Pre w0 S M [cObj b (rsCells fm to sh q t (.slice a k cc)), cAcc (.slice a k cc) 55 9 (L.map eMsg)]) (h1 : Rep w0 S (.slice a1 n1 c1) (dInts c.when)) (h2 : Rep w0 S (.slice a2 n2 c2) (.sl 7 (c.ops.map eOp))) (hq0 : 0 ≤ q) (hq1 : q < 1000000) (hL : L.length < 1000000) :
    Calls Tryd.prog 41 #[.pointer (some ⟨b, 0, none⟩), .int .i64 time, .agg #[.slice a1 n1 c1, .int .i64 c.place, .slice a2 n2 c2], .bool beat] w0 fun e w' => ∃ a' k' c',
      Ret M w0 S w' e (.agg #[.int .i64 fm, .int .i64 to, .int .i64 sh, .int .i64 (q + 1), .int .i64 time, .bool beat, .slice a1 n1 c1, .int .i64 c.place, .slice a2 n2 c2])
        [cObj b (rsCells fm to sh (q + 1) time (.slice a' k' c')), cAcc (.slice a' k' c') 55 9 ((L ++ [(⟨fm, to, sh, q + 1, time, beat, c⟩ : MsgT)]).map eMsg)] [] := by
  obtain rfl := rep_ints_len h1
  have e2 := h2.slen
  rw [List.length_map] at e2
  subst e2
  refine en41 (args := [.pointer (some ⟨b, 0, none⟩), .int .i64 time, .agg #[.slice a1 c.when.length c1, .int .i64 c.place, .slice a2 c.ops.length c2], .bool beat]) (S := S) (C := [cObj b (rsCells fm to sh q t (.slice a k cc)), cAcc (.slice a k cc) 55 9 (L.map eMsg)]) (G := [(_, dInts c.when), (_, .sl 7 (c.ops.map eOp))]) (by kernel_rfl) hP (.cons h1 (.cons h2 (.nil _ _))) ?_
  refine J_show 0 rfl ?_
  refine J_stpx (stp_acclen 0 rfl) fun _ hk => ?_
  rw [List.length_map] at hk
  subst hk
  refine J_seq ?_
  refine J_reg mixed [.wr 0 [] 0, .wr 1 [] 0] [] [0, 1, 3, 6, 8] (E1 := fun nu1 => [(0, .val (.pointer (some (⟨b, 0, none⟩)))), (1, .val (.int .i64 time)), (3, .val (.bool beat)), (6, .val (.pointer (some (⟨nu1 0, 0, none⟩)))), (8, .val (.pointer (some (⟨nu1 1, 0, none⟩))))]) (h1 := fun nu1 => [(b, .cells #[.int .i64 fm, .int .i64 to, .int .i64 sh, .int .i64 q, .int .i64 t, .slice a L.length cc] 64 (0, 0)), (nu1 0, .cells #[.slice a1 c.when.length c1, .int .i64 c.place, .slice a2 c.ops.length c2] 35 (0, 0)), (nu1 1, .cells #[.int .i64 0, .int .i64 0, .int .i64 0, .int .i64 0, .int .i64 0, .bool false, .slice none 0 0, .int .i64 0, .slice none 0 0] 55 (0, 0))]) (p1 := fun nu1 => []) (W1 := []) (by kernel_rfl) (fun _ => by kernel_rfl) (fun _ => trivial) (fun nu1 => ?_)
  refine J_seq ?_
  refine J_reg mixed [.rd 0 [] 0 0, .rd 1 [] 0 0, .rd 2 [] 0 0, .rd 3 [.o 0 none] 0 0, .rd 4 [] 0 1, .rd 5 [] 0 0, .rd 6 [] 0 0, .wr 7 [.o 0 none] 0] [(7, [0])] [0, 1, 3, 6, 8] (E1 := fun _ => [(0, .val (.pointer (some (⟨b, 0, none⟩)))), (1, .val (.int .i64 time)), (3, .val (.bool beat)), (6, .val (.pointer (some (⟨nu1 0, 0, none⟩)))), (8, .val (.pointer (some (⟨nu1 1, 0, none⟩))))]) (h1 := fun _ => [(b, .cells #[.int .i64 fm, .int .i64 to, .int .i64 sh, .int .i64 (q + 1), .int .i64 t, .slice a L.length cc] 64 (0, 0)), (nu1 0, .cells #[.slice a1 c.when.length c1, .int .i64 c.place, .slice a2 c.ops.length c2] 35 (0, 0)), (nu1 1, .cells #[.int .i64 0, .int .i64 0, .int .i64 0, .int .i64 0, .int .i64 0, .bool false, .slice none 0 0, .int .i64 0, .slice none 0 0] 55 (0, 0))]) (p1 := fun _ => [IntKind.i64.wrap (q + (1 : Int)) = q + (1 : Int)]) (W1 := []) (by kernel_rfl) (fun _ => by kernel_rfl) (fun _ => ⟨wrap_i64 (by omega) (by omega), trivial⟩) (fun _ => ?_)
  refine J_seq ?_
  refine J_reg mixed [.rd 0 [] 0 0, .rd 1 [] 0 0, .rd 2 [] 0 0, .rd 3 [] 0 0, .wr 4 [.o 0 none] 0] [(4, [0])] [0, 1, 3, 6, 8] (E1 := fun _ => [(0, .val (.pointer (some (⟨b, 0, none⟩)))), (1, .val (.int .i64 time)), (3, .val (.bool beat)), (6, .val (.pointer (some (⟨nu1 0, 0, none⟩)))), (8, .val (.pointer (some (⟨nu1 1, 0, none⟩))))]) (h1 := fun _ => [(b, .cells #[.int .i64 fm, .int .i64 to, .int .i64 sh, .int .i64 (q + 1), .int .i64 time, .slice a L.length cc] 64 (0, 0)), (nu1 0, .cells #[.slice a1 c.when.length c1, .int .i64 c.place, .slice a2 c.ops.length c2] 35 (0, 0)), (nu1 1, .cells #[.int .i64 0, .int .i64 0, .int .i64 0, .int .i64 0, .int .i64 0, .bool false, .slice none 0 0, .int .i64 0, .slice none 0 0] 55 (0, 0))]) (p1 := fun _ => []) (W1 := []) (by kernel_rfl) (fun _ => by kernel_rfl) (fun _ => trivial) (fun _ => ?_)
  refine J_seq ?_
  refine J_reg mixed [.rd 0 [] 0 0, .rd 1 [] 0 0, .rd 2 [] 0 0, .rd 3 [.o 0 none] 0 0, .rd 4 [] 0 0, .rd 5 [] 0 0, .rd 6 [] 0 0, .rd 7 [.o 0 none] 0 0, .rd 8 [] 0 0, .rd 9 [] 0 0, .rd 10 [] 0 0, .rd 11 [.o 0 none] 0 0, .rd 12 [] 0 0, .rd 13 [] 0 0, .rd 14 [] 0 0, .rd 15 [.o 0 none] 0 0, .rd 16 [] 0 0, .rd 17 [] 0 0, .rd 18 [.o 1 none, .o 1 none, .o 1 none] 0 0, .rd 19 [] 0 0, .wr 20 [] 0, .wr 21 [.o 3 none, .o 3 none, .o 3 none, .o 3 none, .o 3 none, .o 3 none, .o 3 none, .o 3 none, .o 3 none] 0] [(21, [])] [0, 8, 9] (E1 := fun nu2 => [(0, .val (.pointer (some (⟨b, 0, none⟩)))), (8, .val (.pointer (some (⟨nu1 1, 0, none⟩)))), (9, .val (.pointer (some (⟨nu2 0, 0, none⟩))))]) (h1 := fun nu2 => [(b, .cells #[.int .i64 fm, .int .i64 to, .int .i64 sh, .int .i64 (q + 1), .int .i64 time, .slice a L.length cc] 64 (0, 0)), (nu1 0, .cells #[.slice a1 c.when.length c1, .int .i64 c.place, .slice a2 c.ops.length c2] 35 (0, 0)), (nu1 1, .cells #[.int .i64 0, .int .i64 0, .int .i64 0, .int .i64 0, .int .i64 0, .bool false, .slice none 0 0, .int .i64 0, .slice none 0 0] 55 (0, 0)), (nu2 0, .cells #[.int .i64 fm, .int .i64 to, .int .i64 sh, .int .i64 (q + 1), .int .i64 time, .bool beat, .slice a1 c.when.length c1, .int .i64 c.place, .slice a2 c.ops.length c2] 55 (0, 0))]) (p1 := fun nu2 => []) (W1 := []) (by kernel_rfl) (fun _ => by kernel_rfl) (fun _ => trivial) (fun nu2 => ?_)
  refine J_seq ?_
  refine JR_begin mixed [(0, true), (1, true), (2, true), (3, true), (4, true), (5, false), (6, false), (7, true)] [(6, [])] (by kernel_rfl) (by kernel_rfl) ?_
  refine JR_run (id := 4) (rest := [(6, false), (7, true)]) [.rd 0 [] 0 0, .rd 1 [] 0 0, .rd 2 [] 0 0, .rd 3 [.o 0 none] 0 0, .rd 4 [.o 3 none, .o 3 none, .o 3 none, .o 3 none, .o 3 none, .o 3 none, .o 3 none, .o 3 none, .o 3 none] 0 0, .wr 5 [] 0] [0, 8, 9, 45, 47] (E1 := fun nu3 => [(0, .val (.pointer (some (⟨b, 0, none⟩)))), (8, .val (.pointer (some (⟨nu1 1, 0, none⟩)))), (9, .val (.pointer (some (⟨nu2 0, 0, none⟩)))), (45, .val (.slice a L.length cc)), (47, .val (.slice (some (⟨nu3 0, 0, none⟩)) 1 1))]) (h1 := fun nu3 => [(b, .cells #[.int .i64 fm, .int .i64 to, .int .i64 sh, .int .i64 (q + 1), .int .i64 time, .slice a L.length cc] 64 (0, 0)), (nu1 0, .cells #[.slice a1 c.when.length c1, .int .i64 c.place, .slice a2 c.ops.length c2] 35 (0, 0)), (nu1 1, .cells #[.int .i64 0, .int .i64 0, .int .i64 0, .int .i64 0, .int .i64 0, .bool false, .slice none 0 0, .int .i64 0, .slice none 0 0] 55 (0, 0)), (nu2 0, .cells #[.int .i64 fm, .int .i64 to, .int .i64 sh, .int .i64 (q + 1), .int .i64 time, .bool beat, .slice a1 c.when.length c1, .int .i64 c.place, .slice a2 c.ops.length c2] 55 (0, 0)), (nu3 0, .cells #[.int .i64 fm, .int .i64 to, .int .i64 sh, .int .i64 (q + 1), .int .i64 time, .bool beat, .slice a1 c.when.length c1, .int .i64 c.place, .slice a2 c.ops.length c2] 55 (0, 0))]) (p1 := fun nu3 => []) (W1 := [(6, [])]) (fun _ => by kernel_rfl) (fun _ => trivial) (fun nu3 => ?_)
  refine JR_appm 0 48 55 9 104 (.agg #[.int .i64 0, .int .i64 0, .int .i64 0, .int .i64 0, .int .i64 0, .bool false, .slice none 0 0, .int .i64 0, .slice none 0 0]) (a0 := a) (len := L.length) (cap0 := cc) (ax := (some (⟨nu3 0, 0, none⟩))) (m := 1) (c := 1) (dst := (some 48)) [(⟨fm, to, sh, q + 1, time, beat, c⟩ : MsgT)] (by kernel_rfl) (by kernel_rfl) (by kernel_rfl) (by kernel_rfl) rfl (by decide) rfl (fun _ _ _ s => src_one s 4 rfl rfl ⟨.inl ⟨rfl, rfl⟩, ⟨.inl ⟨rfl, rfl⟩, ⟨.inl ⟨rfl, rfl⟩, ⟨.inl ⟨rfl, rfl⟩, ⟨.inl ⟨rfl, rfl⟩, ⟨.inl ⟨rfl, rfl⟩, ⟨.inr (.inl (List.mem_of_getElem? (i := 0) rfl)), ⟨.inl ⟨rfl, rfl⟩, ⟨.inr (.inl (List.mem_of_getElem? (i := 1) rfl)), trivial⟩⟩⟩⟩⟩⟩⟩⟩⟩) (by simp only [maxLen]; omega) (by omega) (fun av1 cv1 => ?_)
  try simp only [List.cons_append, List.nil_append, List.append_nil]
  refine JR_run (id := 4) (rest := []) [.rd 7 [] 0 0] [0, 8, 9, 10] (E1 := fun _ => [(0, .val (.pointer (some (⟨b, 0, none⟩)))), (8, .val (.pointer (some (⟨nu1 1, 0, none⟩)))), (9, .val (.pointer (some (⟨nu2 0, 0, none⟩)))), (10, .val (.slice av1 (L.length + 1) cv1))]) (h1 := fun _ => [(b, .cells #[.int .i64 fm, .int .i64 to, .int .i64 sh, .int .i64 (q + 1), .int .i64 time, .slice a L.length cc] 64 (0, 0)), (nu1 0, .cells #[.slice a1 c.when.length c1, .int .i64 c.place, .slice a2 c.ops.length c2] 35 (0, 0)), (nu1 1, .cells #[.int .i64 0, .int .i64 0, .int .i64 0, .int .i64 0, .int .i64 0, .bool false, .slice none 0 0, .int .i64 0, .slice none 0 0] 55 (0, 0)), (nu2 0, .cells #[.int .i64 fm, .int .i64 to, .int .i64 sh, .int .i64 (q + 1), .int .i64 time, .bool beat, .slice a1 c.when.length c1, .int .i64 c.place, .slice a2 c.ops.length c2] 55 (0, 0)), (nu3 0, .cells #[.int .i64 fm, .int .i64 to, .int .i64 sh, .int .i64 (q + 1), .int .i64 time, .bool beat, .slice a1 c.when.length c1, .int .i64 c.place, .slice a2 c.ops.length c2] 55 (0, 0))]) (p1 := fun _ => []) (W1 := []) (fun _ => by kernel_rfl) (fun _ => trivial) (fun _ => ?_)
  try simp only [List.cons_append, List.nil_append, List.append_nil]
  refine JR_end ?_
  try simp only [List.cons_append, List.nil_append, List.append_nil]
  refine J_seq ?_
  try simp only [List.cons_append, List.nil_append, List.append_nil]
  refine J_reg mixed [.rd 0 [] 0 0, .rd 1 [] 0 0, .rd 2 [] 0 0, .rd 3 [] 0 0, .wr 4 [.o 0 none] 0] [(4, [0])] [8, 9] (E1 := fun _ => [(8, .val (.pointer (some (⟨nu1 1, 0, none⟩)))), (9, .val (.pointer (some (⟨nu2 0, 0, none⟩))))]) (h1 := fun _ => [(b, .cells #[.int .i64 fm, .int .i64 to, .int .i64 sh, .int .i64 (q + 1), .int .i64 time, .slice av1 (L.length + 1) cv1] 64 (0, 0)), (nu1 0, .cells #[.slice a1 c.when.length c1, .int .i64 c.place, .slice a2 c.ops.length c2] 35 (0, 0)), (nu1 1, .cells #[.int .i64 0, .int .i64 0, .int .i64 0, .int .i64 0, .int .i64 0, .bool false, .slice none 0 0, .int .i64 0, .slice none 0 0] 55 (0, 0)), (nu2 0, .cells #[.int .i64 fm, .int .i64 to, .int .i64 sh, .int .i64 (q + 1), .int .i64 time, .bool beat, .slice a1 c.when.length c1, .int .i64 c.place, .slice a2 c.ops.length c2] 55 (0, 0)), (nu3 0, .cells #[.int .i64 fm, .int .i64 to, .int .i64 sh, .int .i64 (q + 1), .int .i64 time, .bool beat, .slice a1 c.when.length c1, .int .i64 c.place, .slice a2 c.ops.length c2] 55 (0, 0))]) (p1 := fun _ => []) (W1 := []) (by kernel_rfl) (fun _ => by kernel_rfl) (fun _ => trivial) (fun _ => ?_)
  try simp only [List.cons_append, List.nil_append, List.append_nil]
  refine J_seq ?_
  try simp only [List.cons_append, List.nil_append, List.append_nil]
  refine J_reg mixed [.rd 0 [.o 3 none, .o 3 none, .o 3 none, .o 3 none, .o 3 none, .o 3 none, .o 3 none, .o 3 none, .o 3 none] 0 0, .wr 1 [.o 2 none, .o 2 none, .o 2 none, .o 2 none, .o 2 none, .o 2 none, .o 2 none, .o 2 none, .o 2 none] 0] [(1, [2])] [8] (E1 := fun _ => [(8, .val (.pointer (some (⟨nu1 1, 0, none⟩))))]) (h1 := fun _ => [(b, .cells #[.int .i64 fm, .int .i64 to, .int .i64 sh, .int .i64 (q + 1), .int .i64 time, .slice av1 (L.length + 1) cv1] 64 (0, 0)), (nu1 0, .cells #[.slice a1 c.when.length c1, .int .i64 c.place, .slice a2 c.ops.length c2] 35 (0, 0)), (nu1 1, .cells #[.int .i64 fm, .int .i64 to, .int .i64 sh, .int .i64 (q + 1), .int .i64 time, .bool beat, .slice a1 c.when.length c1, .int .i64 c.place, .slice a2 c.ops.length c2] 55 (0, 0)), (nu2 0, .cells #[.int .i64 fm, .int .i64 to, .int .i64 sh, .int .i64 (q + 1), .int .i64 time, .bool beat, .slice a1 c.when.length c1, .int .i64 c.place, .slice a2 c.ops.length c2] 55 (0, 0)), (nu3 0, .cells #[.int .i64 fm, .int .i64 to, .int .i64 sh, .int .i64 (q + 1), .int .i64 time, .bool beat, .slice a1 c.when.length c1, .int .i64 c.place, .slice a2 c.ops.length c2] 55 (0, 0))]) (p1 := fun _ => []) (W1 := []) (by kernel_rfl) (fun _ => by kernel_rfl) (fun _ => trivial) (fun _ => ?_)
  try simp only [List.cons_append, List.nil_append, List.append_nil]
  refine J_return [[.o 2 none, .o 2 none, .o 2 none, .o 2 none, .o 2 none, .o 2 none, .o 2 none, .o 2 none, .o 2 none]] (.agg #[.int .i64 fm, .int .i64 to, .int .i64 sh, .int .i64 (q + 1), .int .i64 time, .bool beat, .slice a1 c.when.length c1, .int .i64 c.place, .slice a2 c.ops.length c2]) (by kernel_rfl) (fun a w s => ?_)
  exact ⟨_, _, _, (s.hide 0 rfl).ret (by simp) [1, 0] [] rfl rfl⟩
theorem racked {w0 : World} {S : Nat → Prop} {M : List Nat} {b : Nat} {fm to sh q t seq : Int} {a : Option Addr} {k cc : Nat} {L : List MsgT}
    (hP : Pre w0 S M [cObj b (rsCells fm to sh q t (.slice a k cc)), cAcc (.slice a k cc) 55 9 (L.map eMsg)]) (hL : L.length ≤ 1000000) :
    Calls Tryd.prog 31 #[.pointer (some ⟨b, 0, none⟩), .int .i64 seq] w0 fun e w' => ∃ a' k' c', Ret M w0 S w' e (.int .i64 (ackErr q seq)) [cObj b (rsCells fm to sh q t (.slice a' k' c')), cAcc (.slice a' k' c') 55 9 ((ackL q seq L).map eMsg)] [] := by
  refine en31 (args := [.pointer (some ⟨b, 0, none⟩), .int .i64 seq]) (S := S) (C := [cObj b (rsCells fm to sh q t (.slice a k cc)), cAcc (.slice a k cc) 55 9 (L.map eMsg)]) (G := []) (by kernel_rfl) hP (.nil _ _) ?_
  refine J_show 0 rfl ?_
  refine J_stpx (stp_acclen 0 rfl) fun _ hk => ?_
  rw [List.length_map] at hk
  subst hk
  refine J_seq ?_
  refine J_reg mixed [.rd 0 [] 0 0] [] [0, 1, 4] (E1 := fun _ => [(0, .val (.pointer (some (⟨b, 0, none⟩)))), (1, .val (.int .i64 seq)), (4, .val (.int .i64 0))]) (h1 := fun _ => [(b, .cells #[.int .i64 fm, .int .i64 to, .int .i64 sh, .int .i64 q, .int .i64 t, .slice a L.length cc] 64 (0, 0))]) (p1 := fun _ => []) (W1 := []) (by kernel_rfl) (fun _ => by kernel_rfl) (fun _ => trivial) (fun _ => ?_)
  refine J_seq ?_
  refine J_seq ?_
  refine J_reg mixed [.rd 0 [] 0 0, .rd 1 [] 0 0, .rd 2 [] 0 0, .rd 3 [] 2 0, .rd 4 [] 2 0, .rd 5 [] 2 0, .rd 6 [] 2 0, .rd 7 [.o 0 none] 2 0, .rd 8 [] 2 0, .rd 9 [] 0 3] [] [0, 1, 4, 16] (E1 := fun _ => [(0, .val (.pointer (some (⟨b, 0, none⟩)))), (1, .val (.int .i64 seq)), (4, .val (.int .i64 0)), (16, .val (.bool (decide (seq < 0) || decide (seq > q))))]) (h1 := fun _ => [(b, .cells #[.int .i64 fm, .int .i64 to, .int .i64 sh, .int .i64 q, .int .i64 t, .slice a L.length cc] 64 (0, 0))]) (p1 := fun _ => []) (W1 := []) (by kernel_rfl) (fun _ => by kernel_rfl) (fun _ => trivial) (fun _ => ?_)
  refine J_cond (t := decide (seq < 0) || decide (seq > q)) (by kernel_rfl) (by kernel_rfl) (fun hb => ?_) (fun hb => ?_)
  · have e1 : ackErr q seq = 2 := by rw [ackErr, if_pos (by simp at hb; omega)]
    have e2 : ackL q seq L = L := by rw [ackL, if_neg (by rw [e1]; decide)]
    rw [e1, e2]
    refine J_seq ?_
    refine J_reg mixed [.rd 0 [] 0 0] [] [0, 1, 4] (E1 := fun _ => [(0, .val (.pointer (some (⟨b, 0, none⟩)))), (1, .val (.int .i64 seq)), (4, .val (.int .i64 2))]) (h1 := fun _ => [(b, .cells #[.int .i64 fm, .int .i64 to, .int .i64 sh, .int .i64 q, .int .i64 t, .slice a L.length cc] 64 (0, 0))]) (p1 := fun _ => []) (W1 := []) (by kernel_rfl) (fun _ => by kernel_rfl) (fun _ => trivial) (fun _ => ?_)
    refine J_return [[]] (.int .i64 2) (by kernel_rfl) (fun a w s => ?_)
    exact ⟨_, _, _, (s.hide 0 rfl).ret (by simp) [1, 0] [] rfl rfl⟩
  have e1 : ackErr q seq = 0 := by rw [ackErr, if_neg (by simp at hb; omega)]
  have e2 : ackL q seq L = keepL L seq := by rw [ackL, if_pos e1]
  rw [e1, e2]
  refine J_stp (stp_accm eMsg 55 9) ?_
  try simp only [List.cons_append, List.nil_append, List.append_nil]
  refine J_skip ?_
  try simp only [List.cons_append, List.nil_append, List.append_nil]
  refine J_seq ?_
  try simp only [List.cons_append, List.nil_append, List.append_nil]
  refine J_reg mixed [.rd 0 [] 0 0] [] [0, 1, 4, 5] (E1 := fun _ => [(0, .val (.pointer (some (⟨b, 0, none⟩)))), (1, .val (.int .i64 seq)), (4, .val (.int .i64 0)), (5, .val (.slice none 0 0))]) (h1 := fun _ => [(b, .cells #[.int .i64 fm, .int .i64 to, .int .i64 sh, .int .i64 q, .int .i64 t, .slice a L.length cc] 64 (0, 0))]) (p1 := fun _ => []) (W1 := []) (by kernel_rfl) (fun _ => by kernel_rfl) (fun _ => trivial) (fun _ => ?_)
  try simp only [List.cons_append, List.nil_append, List.append_nil]
  refine J_seq ?_
  try simp only [List.cons_append, List.nil_append, List.append_nil]
  refine J_seq ?_
  try simp only [List.cons_append, List.nil_append, List.append_nil]
  refine J_reg mixed [.rd 0 [] 0 0] [] [0, 1, 4, 5, 6] (E1 := fun _ => [(0, .val (.pointer (some (⟨b, 0, none⟩)))), (1, .val (.int .i64 seq)), (4, .val (.int .i64 0)), (5, .val (.slice none 0 0)), (6, .val (.int .i64 0))]) (h1 := fun _ => [(b, .cells #[.int .i64 fm, .int .i64 to, .int .i64 sh, .int .i64 q, .int .i64 t, .slice a L.length cc] 64 (0, 0))]) (p1 := fun _ => []) (W1 := []) (by kernel_rfl) (fun _ => by kernel_rfl) (fun _ => trivial) (fun _ => ?_)
  try simp only [List.cons_append, List.nil_append, List.append_nil]
  refine J_block ?_
  try simp only [List.cons_append, List.nil_append, List.append_nil]
  refine J_loopx (fun x : AccI => [(0, .val (.pointer (some (⟨b, 0, none⟩)))), (1, .val (.int .i64 seq)), (4, .val (.int .i64 0)), (5, .val (.slice x.a x.k x.c)), (6, .val (.int .i64 x.i))]) (fun x : AccI => [(b, .cells #[.int .i64 fm, .int .i64 to, .int .i64 sh, .int .i64 q, .int .i64 t, .slice a L.length cc] 64 (0, 0))]) (fun x : AccI => [cAcc (.slice a L.length cc) 55 9 (L.map eMsg), cAcc (.slice x.a x.k x.c) 55 9 ((keepL (List.take x.i.toNat L) seq).map eMsg)]) (fun x : AccI => []) (fun x : AccI => (L.length - x.i).toNat) (fun x : AccI => (0 ≤ x.i ∧ x.i ≤ L.length)) ⟨0, none, 0, 0⟩ [0, 1, 4, 5, 6] [0] [0, 1] [] ?_ (by kernel_rfl) rfl rfl rfl ?_
  · exact ⟨by simp, by simp⟩
  rintro ⟨i, av, k, cv⟩ ⟨hi0, hi⟩
  dsimp only at hi0 hi ⊢
  refine J_stpx (stp_acclen 1 rfl) fun _ hk => ?_
  have hk2 : k ≤ L.length := by
    rw [List.length_map] at hk
    have h1 : (keepL (List.take i.toNat L) seq).length ≤ (List.take i.toNat L).length := List.length_filter_le _ _
    rw [List.length_take] at h1
    omega
  refine J_seq ?_
  refine J_seq ?_
  refine J_reg mixed [.rd 0 [] 0 0, .rd 1 [] 0 0, .rd 2 [] 0 0, .rd 3 [] 0 0, .rd 4 [.o 0 none] 0 0, .rd 5 [] 0 0, .rd 6 [] 0 0] [] [0, 1, 4, 5, 6, 23] (E1 := fun _ => [(0, .val (.pointer (some (⟨b, 0, none⟩)))), (1, .val (.int .i64 seq)), (4, .val (.int .i64 0)), (5, .val (.slice av k cv)), (6, .val (.int .i64 i)), (23, .val (.bool (decide (i < (↑L.length : Int)))))]) (h1 := fun _ => [(b, .cells #[.int .i64 fm, .int .i64 to, .int .i64 sh, .int .i64 q, .int .i64 t, .slice a L.length cc] 64 (0, 0))]) (p1 := fun _ => []) (W1 := []) (by kernel_rfl) (fun _ => by kernel_rfl) (fun _ => trivial) (fun _ => ?_)
  refine J_cond (t := decide (i < (↑L.length : Int))) (by kernel_rfl) (by kernel_rfl) (fun hlt => ?_) (fun hlt => ?_)
  · have hlt2 : i < L.length := by simpa using hlt
    obtain ⟨x, hx⟩ : ∃ x, L[i.toNat]? = some x := ⟨_, List.getElem?_eq_getElem (by omega)⟩
    refine J_openacc 0 rfl (by intro h0; rw [List.map_eq_nil_iff] at h0; rw [h0] at hx; simp at hx) fun g cur xs hu _ _ hrow => ?_
    subst hu
    refine J_stpx (stp_readrows 1 rfl i.toNat (map_at hx)) fun ls hls => ?_
    obtain ⟨hls1, hls2⟩ := hls
    obtain ⟨⟨xa, xc⟩, ⟨ya, yc⟩, rfl⟩ : ∃ l0 l1, ls = [l0, l1] := len2 hls1
    have f := fun (j : Nat) v h => hrow.atx (hls2 j v h)
    have r0 : cur[0 + i.toNat * 9]? = some (.int .i64 x.fm) := by rw [Nat.zero_add]; exact f 0 _ rfl
    have r1 : cur[0 + i.toNat * 9 + 1]? = some (.int .i64 x.to) := by rw [Nat.zero_add]; exact f 1 _ rfl
    have r2 : cur[0 + i.toNat * 9 + 2]? = some (.int .i64 x.shard) := by rw [Nat.zero_add]; exact f 2 _ rfl
    have r3 : cur[0 + i.toNat * 9 + 3]? = some (.int .i64 x.seq) := by rw [Nat.zero_add]; exact f 3 _ rfl
    have r4 : cur[0 + i.toNat * 9 + 4]? = some (.int .i64 x.time) := by rw [Nat.zero_add]; exact f 4 _ rfl
    have r5 : cur[0 + i.toNat * 9 + 5]? = some (.bool x.beat) := by rw [Nat.zero_add]; exact f 5 _ rfl
    have r6 : cur[0 + i.toNat * 9 + 6]? = some (.slice xa (x.c.when.map eI).length xc) := by rw [Nat.zero_add]; exact f 6 _ rfl
    have r7 : cur[0 + i.toNat * 9 + 7]? = some (.int .i64 x.c.place) := by rw [Nat.zero_add]; exact f 7 _ rfl
    have r8 : cur[0 + i.toNat * 9 + 8]? = some (.slice ya (x.c.ops.map eOp).length yc) := by rw [Nat.zero_add]; exact f 8 _ rfl
    try simp only [List.cons_append, List.nil_append, List.append_nil]
    refine J_skip ?_
    try simp only [List.cons_append, List.nil_append, List.append_nil]
    refine J_seq ?_
    try simp only [List.cons_append, List.nil_append, List.append_nil]
    refine J_block ?_
    try simp only [List.cons_append, List.nil_append, List.append_nil]
    refine J_seq ?_
    try simp only [List.cons_append, List.nil_append, List.append_nil]
    refine J_reg mixed [.rd 0 [] 0 0, .rd 1 [] 0 0, .rd 2 [] 0 0, .rd 3 [.o 0 none] 0 0, .rd 4 [] 0 0, .rd 5 [] 0 2, .rd 6 [] 0 0, .rd 7 [.o 1 (some (.int .i64 x.seq))] 0 0, .rd 8 [] 0 0, .rd 9 [] 0 0] [] [0, 1, 4, 5, 6, 35] (E1 := fun _ => [(0, .val (.pointer (some (⟨b, 0, none⟩)))), (1, .val (.int .i64 seq)), (4, .val (.int .i64 0)), (5, .val (.slice av k cv)), (6, .val (.int .i64 i)), (35, .val (.bool (decide (x.seq > seq))))]) (h1 := fun _ => [(b, .cells #[.int .i64 fm, .int .i64 to, .int .i64 sh, .int .i64 q, .int .i64 t, .slice (some (⟨g, 0, none⟩)) L.length cc] 64 (0, 0)), (g, .cells cur 55 (0, 0))]) (p1 := fun _ => [(0 : Int) ≤ i, i < (↑L.length : Int), cur[(0 : Nat) + i.toNat * (9 : Nat) + (3 : Nat)]? = some (Value.int IntKind.i64 x.seq)]) (W1 := []) (by kernel_rfl) (fun _ => by kernel_rfl) (fun _ => ⟨hi0, hlt2, r3, trivial⟩) (fun _ => ?_)
    try simp only [List.cons_append, List.nil_append, List.append_nil]
    have hsn : keepL (List.take (i + 1).toNat L) seq = keepL (List.take i.toNat L) seq ++ if seq < x.seq then [x] else [] := by rw [← take_snoc hi0 hx, keepL_snoc]
    refine J_cond (t := decide (x.seq > seq)) (by kernel_rfl) (by kernel_rfl) (fun hb2 => ?_) (fun hb2 => ?_)
    · rw [if_pos (by simpa using hb2)] at hsn
      try simp only [List.cons_append, List.nil_append, List.append_nil]
      refine JR_begin mixed [(0, true), (1, true), (2, true), (3, true), (4, true), (5, true), (6, true), (7, true), (8, false), (9, false), (10, true)] [] (by kernel_rfl) (by kernel_rfl) ?_
      refine JR_run (id := 8) (rest := [(9, false), (10, true)]) [.rd 0 [] 0 0, .rd 1 [] 0 0, .rd 2 [] 0 0, .rd 3 [] 0 0, .rd 4 [.o 0 none] 0 0, .rd 5 [] 0 0, .rd 6 [] 0 2, .rd 7 [.o 1 (some (.int .i64 x.fm)), .o 1 (some (.int .i64 x.to)), .o 1 (some (.int .i64 x.shard)), .o 1 (some (.int .i64 x.seq)), .o 1 (some (.int .i64 x.time)), .o 1 (some (.bool x.beat)), .o 1 (some (.slice xa ((List.map eI x.c.when).length) xc)), .o 1 (some (.int .i64 x.c.place)), .o 1 (some (.slice ya ((List.map eOp x.c.ops).length) yc))] 0 0, .wr 8 [] 0] [0, 1, 4, 5, 6, 36, 44] (E1 := fun nu1 => [(0, .val (.pointer (some (⟨b, 0, none⟩)))), (1, .val (.int .i64 seq)), (4, .val (.int .i64 0)), (5, .val (.slice av k cv)), (6, .val (.int .i64 i)), (36, .val (.slice av k cv)), (44, .val (.slice (some (⟨nu1 0, 0, none⟩)) 1 1))]) (h1 := fun nu1 => [(b, .cells #[.int .i64 fm, .int .i64 to, .int .i64 sh, .int .i64 q, .int .i64 t, .slice (some (⟨g, 0, none⟩)) L.length cc] 64 (0, 0)), (g, .cells cur 55 (0, 0)), (nu1 0, .cells #[.int .i64 x.fm, .int .i64 x.to, .int .i64 x.shard, .int .i64 x.seq, .int .i64 x.time, .bool x.beat, .slice xa ((List.map eI x.c.when).length) xc, .int .i64 x.c.place, .slice ya ((List.map eOp x.c.ops).length) yc] 55 (0, 0))]) (p1 := fun nu1 => [(0 : Int) ≤ i, i < (↑L.length : Int), cur[(0 : Nat) + i.toNat * (9 : Nat)]? = some (Value.int IntKind.i64 x.fm), cur[(0 : Nat) + i.toNat * (9 : Nat) + (1 : Nat)]? = some (Value.int IntKind.i64 x.to), cur[(0 : Nat) + i.toNat * (9 : Nat) + (2 : Nat)]? = some (Value.int IntKind.i64 x.shard), cur[(0 : Nat) + i.toNat * (9 : Nat) + (3 : Nat)]? = some (Value.int IntKind.i64 x.seq), cur[(0 : Nat) + i.toNat * (9 : Nat) + (4 : Nat)]? = some (Value.int IntKind.i64 x.time), cur[(0 : Nat) + i.toNat * (9 : Nat) + (5 : Nat)]? = some (Value.bool x.beat), cur[(0 : Nat) + i.toNat * (9 : Nat) + (6 : Nat)]? = some (Value.slice xa (List.map eI x.c.when).length xc), cur[(0 : Nat) + i.toNat * (9 : Nat) + (7 : Nat)]? = some (Value.int IntKind.i64 x.c.place), cur[(0 : Nat) + i.toNat * (9 : Nat) + (8 : Nat)]? = some (Value.slice ya (List.map eOp x.c.ops).length yc)]) (W1 := []) (fun _ => by kernel_rfl) (fun _ => ⟨hi0, hlt2, r0, r1, r2, r3, r4, r5, r6, r7, r8, trivial⟩) (fun nu1 => ?_)
      refine JR_appm 0 48 55 9 104 (.agg #[.int .i64 0, .int .i64 0, .int .i64 0, .int .i64 0, .int .i64 0, .bool false, .slice none 0 0, .int .i64 0, .slice none 0 0]) (a0 := av) (len := k) (cap0 := cv) (ax := (some (⟨nu1 0, 0, none⟩))) (m := 1) (c := 1) (dst := (some 45)) [x] (by kernel_rfl) (by kernel_rfl) (by kernel_rfl) (by kernel_rfl) rfl (by decide) rfl (fun _ _ _ s => src_one s 2 rfl rfl ⟨.inl ⟨rfl, rfl⟩, ⟨.inl ⟨rfl, rfl⟩, ⟨.inl ⟨rfl, rfl⟩, ⟨.inl ⟨rfl, rfl⟩, ⟨.inl ⟨rfl, rfl⟩, ⟨.inl ⟨rfl, rfl⟩, ⟨.inr (.inl (List.mem_of_getElem? (i := 0) rfl)), ⟨.inl ⟨rfl, rfl⟩, ⟨.inr (.inl (List.mem_of_getElem? (i := 1) rfl)), trivial⟩⟩⟩⟩⟩⟩⟩⟩⟩) (by simp only [maxLen]; omega) (by omega) (fun av1 cv1 => ?_)
      try simp only [List.cons_append, List.nil_append, List.append_nil]
      refine JR_run (id := 8) (rest := []) [.rd 10 [] 0 0] [0, 1, 4, 5, 6] (E1 := fun _ => [(0, .val (.pointer (some (⟨b, 0, none⟩)))), (1, .val (.int .i64 seq)), (4, .val (.int .i64 0)), (5, .val (.slice av1 (k + 1) cv1)), (6, .val (.int .i64 i))]) (h1 := fun _ => [(b, .cells #[.int .i64 fm, .int .i64 to, .int .i64 sh, .int .i64 q, .int .i64 t, .slice (some (⟨g, 0, none⟩)) L.length cc] 64 (0, 0)), (g, .cells cur 55 (0, 0)), (nu1 0, .cells #[.int .i64 x.fm, .int .i64 x.to, .int .i64 x.shard, .int .i64 x.seq, .int .i64 x.time, .bool x.beat, .slice xa ((List.map eI x.c.when).length) xc, .int .i64 x.c.place, .slice ya ((List.map eOp x.c.ops).length) yc] 55 (0, 0))]) (p1 := fun _ => []) (W1 := []) (fun _ => by kernel_rfl) (fun _ => trivial) (fun _ => ?_)
      try simp only [List.cons_append, List.nil_append, List.append_nil]
      refine JR_end ?_
      try simp only [List.cons_append, List.nil_append, List.append_nil]
      refine J_eb ?_
      try simp only [List.cons_append, List.nil_append, List.append_nil]
      refine J_hide 1 rfl ?_
      refine J_stp (stp_closeacc 2 0 rfl rfl hrow (by decide)) ?_
      rw [show (List.map eMsg L).length = L.length from List.length_map ..]
      try simp only [List.cons_append, List.nil_append, List.append_nil]
      refine J_reg mixed [.rd 0 [] 0 0, .rd 1 [] 0 1, .rd 2 [] 0 0] [] [0, 1, 4, 5, 6] (E1 := fun _ => [(0, .val (.pointer (some (⟨b, 0, none⟩)))), (1, .val (.int .i64 seq)), (4, .val (.int .i64 0)), (5, .val (.slice av1 (k + 1) cv1)), (6, .val (.int .i64 (i + 1)))]) (h1 := fun _ => [(b, .cells #[.int .i64 fm, .int .i64 to, .int .i64 sh, .int .i64 q, .int .i64 t, .slice (some (⟨g, 0, none⟩)) L.length cc] 64 (0, 0)), (nu1 0, .cells #[.int .i64 x.fm, .int .i64 x.to, .int .i64 x.shard, .int .i64 x.seq, .int .i64 x.time, .bool x.beat, .slice xa ((List.map eI x.c.when).length) xc, .int .i64 x.c.place, .slice ya ((List.map eOp x.c.ops).length) yc] 55 (0, 0))]) (p1 := fun _ => [IntKind.i64.wrap (i + (1 : Int)) = i + (1 : Int)]) (W1 := []) (by kernel_rfl) (fun _ => by kernel_rfl) (fun _ => ⟨wrap_i64 (by omega) (by omega), trivial⟩) (fun _ => ?_)
      try simp only [List.cons_append, List.nil_append, List.append_nil]
      refine J_norm (C' := [cAcc (.slice av1 (k + 1) cv1) 55 9 (List.map eMsg (keepL (List.take i.toNat L) seq ++ [x])), cAcc (.slice (some (⟨g, 0, none⟩)) L.length cc) 55 9 (List.map eMsg L)]) (G' := [(.slice (xa, xc).fst ((List.map eI x.c.when).length) xc, (D.sl 1 (List.map eI x.c.when))), (.slice (ya, yc).fst ((List.map eOp x.c.ops).length) yc, (D.sl 7 (List.map eOp x.c.ops)))]) (by kernel_rfl) (by kernel_rfl) ?_
      rw [← hsn]
      refine J_backx ⟨i + 1, av1, k + 1, cv1⟩ [0, 1, 4, 5, 6] [0] [1, 0] [] ?_ ?_ (by kernel_rfl) rfl rfl rfl
      · exact ⟨by simp only; omega, by simp only; omega⟩
      · simp only
        omega
    · rw [if_neg (by simpa using hb2), List.append_nil] at hsn
      refine J_hide 1 rfl ?_
      refine J_stp (stp_closeacc 2 1 rfl rfl hrow (by decide)) ?_
      rw [show (List.map eMsg L).length = L.length from List.length_map ..]
      try simp only [List.cons_append, List.nil_append, List.append_nil]
      refine J_skip ?_
      try simp only [List.cons_append, List.nil_append, List.append_nil]
      refine J_eb ?_
      try simp only [List.cons_append, List.nil_append, List.append_nil]
      refine J_reg mixed [.rd 0 [] 0 0, .rd 1 [] 0 1, .rd 2 [] 0 0] [] [0, 1, 4, 5, 6] (E1 := fun _ => [(0, .val (.pointer (some (⟨b, 0, none⟩)))), (1, .val (.int .i64 seq)), (4, .val (.int .i64 0)), (5, .val (.slice av k cv)), (6, .val (.int .i64 (i + 1)))]) (h1 := fun _ => [(b, .cells #[.int .i64 fm, .int .i64 to, .int .i64 sh, .int .i64 q, .int .i64 t, .slice (some (⟨g, 0, none⟩)) L.length cc] 64 (0, 0))]) (p1 := fun _ => [IntKind.i64.wrap (i + (1 : Int)) = i + (1 : Int)]) (W1 := []) (by kernel_rfl) (fun _ => by kernel_rfl) (fun _ => ⟨wrap_i64 (by omega) (by omega), trivial⟩) (fun _ => ?_)
      try simp only [List.cons_append, List.nil_append, List.append_nil]
      refine J_norm (C' := [cAcc (.slice av k cv) 55 9 (List.map eMsg (keepL (List.take i.toNat L) seq)), cAcc (.slice (some (⟨g, 0, none⟩)) L.length cc) 55 9 (List.map eMsg L)]) (G' := [(.slice (xa, xc).fst ((List.map eI x.c.when).length) xc, (D.sl 1 (List.map eI x.c.when))), (.slice (ya, yc).fst ((List.map eOp x.c.ops).length) yc, (D.sl 7 (List.map eOp x.c.ops)))]) (by kernel_rfl) (by kernel_rfl) ?_
      rw [← hsn]
      refine J_backx ⟨i + 1, av, k, cv⟩ [0, 1, 4, 5, 6] [0] [1, 0] [] ?_ ?_ (by kernel_rfl) rfl rfl rfl
      · exact ⟨by simp only; omega, by simp only; omega⟩
      · simp only
        omega
  · have e : List.take i.toNat L = L := List.take_of_length_le (by simp at hlt; omega)
    rw [e]
    refine J_exit rfl ?_
    refine J_seq ?_
    refine J_reg mixed [.rd 0 [] 0 0, .rd 1 [] 0 0, .rd 2 [] 0 0, .rd 3 [] 0 0, .wr 4 [.o 0 none] 0] [(4, [0])] [4] (E1 := fun _ => [(4, .val (.int .i64 0))]) (h1 := fun _ => [(b, .cells #[.int .i64 fm, .int .i64 to, .int .i64 sh, .int .i64 q, .int .i64 t, .slice av k cv] 64 (0, 0))]) (p1 := fun _ => []) (W1 := []) (by kernel_rfl) (fun _ => by kernel_rfl) (fun _ => trivial) (fun _ => ?_)
    refine J_seq ?_
    refine J_reg mixed [.rd 0 [] 0 0] [] [4] (E1 := fun _ => [(4, .val (.int .i64 0))]) (h1 := fun _ => [(b, .cells #[.int .i64 fm, .int .i64 to, .int .i64 sh, .int .i64 q, .int .i64 t, .slice av k cv] 64 (0, 0))]) (p1 := fun _ => []) (W1 := []) (by kernel_rfl) (fun _ => by kernel_rfl) (fun _ => trivial) (fun _ => ?_)
    refine J_return [[]] (.int .i64 0) (by kernel_rfl) (fun a w s => ?_)
    exact ⟨_, _, _, (s.hide 0 rfl).ret (by simp) [2, 1] [] rfl rfl⟩
end Go.Proofs.YtgelnbgjabpdbaaDoor
