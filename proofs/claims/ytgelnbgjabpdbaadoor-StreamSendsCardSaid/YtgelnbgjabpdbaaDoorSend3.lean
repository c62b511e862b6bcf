/- stream: (*Sender).Acked, (*Sender).Commit. -/
import Derived.Test.YtgelnbgjabpdbaaDoorAckD
import Derived.Test.YtgelnbgjabpdbaaDoorComErr2
import Derived.Test.YtgelnbgjabpdbaaDoorSend2
namespace Go.Proofs.YtgelnbgjabpdbaaDoor
open Go Go.Sx

def ackErr (q seq : Int) : Nat := if seq < 0 ∨ q < seq then 2 else 0
def ackL (q seq : Int) (L : List MsgT) : List MsgT := if ackErr q seq = 0 then keepL L seq else L
theorem sacked {w0 : World} {S : Nat → Prop} {M : List Nat} {er : Nat → Addr} {eb : Nat → Array Value × TypeId} {b : Nat} {fm to sh q t seq : Int} {a : Option Addr} {k cc : Nat} {L : List MsgT} (hC : Rep w0 S .nilIface (dC er eb))
    (hP : Pre w0 S M [cObj b (sCells fm to sh q t (.slice a k cc)), cAcc (.slice a k cc) 37 9 (L.map eMsg)]) (hL : L.length ≤ 1000000) :
    Calls Tryd.prog 12 #[.pointer (some ⟨b, 0, none⟩), .int .i64 seq] w0 fun e w' => ∃ a' k' c' v, Ret M w0 S w' e v [cObj b (sCells fm to sh q t (.slice a' k' c')), cAcc (.slice a' k' c') 37 9 ((ackL q seq L).map eMsg)] [] ∧ ErrIs 168 er (ackErr q seq) v := by
  refine en12 (args := [.pointer (some ⟨b, 0, none⟩), .int .i64 seq]) (S := S) (C := [cObj b (sCells fm to sh q t (.slice a k cc)), cAcc (.slice a k cc) 37 9 (L.map eMsg)]) (G := [(_, dC er eb)]) (by kernel_rfl) hP (.cons hC (.nil _ _)) ?_
  refine J_show 0 rfl ?_
  refine J_stp (stp_all 0 [1] rfl rfl) ?_
  refine J_glob 1 rfl (fun csg1 tyg1 fzg1 hglob1 => ?_)
  try simp only [List.cons_append, List.nil_append, List.append_nil]
  refine J_seq ?_
  refine J_reg mixed [.wr 0 [] 0, .rd 1 [] 0 0] [] [0, 3, 4] (E1 := fun nu1 => [(0, .val (.pointer (some (⟨b, 0, none⟩)))), (3, .val (.pointer (some (⟨nu1 0, 0, none⟩)))), (4, .val (.nilIface))]) (h1 := fun nu1 => [(b, .cells #[.int .i64 fm, .int .i64 to, .int .i64 sh, .int .i64 q, .int .i64 t, .slice a k cc] 86 (0, 0)), (nu1 0, .cells #[.int .i64 seq] 3 (0, 0))]) (p1 := fun nu1 => []) (W1 := []) (by kernel_rfl) (fun _ => by kernel_rfl) (fun _ => trivial) (fun nu1 => ?_)
  refine J_seq ?_
  refine J_seq ?_
  refine J_reg mixed [.rd 0 [.o 1 none] 0 0, .rd 1 [] 0 0, .rd 2 [] 0 0, .rd 3 [.o 1 none] 2 0, .rd 4 [] 2 0, .rd 5 [] 2 0, .rd 6 [] 2 0, .rd 7 [.o 0 none] 2 0, .rd 8 [] 2 0, .rd 9 [] 0 3] [] [0, 3, 4, 14] (E1 := fun _ => [(0, .val (.pointer (some (⟨b, 0, none⟩)))), (3, .val (.pointer (some (⟨nu1 0, 0, none⟩)))), (4, .val (.nilIface)), (14, .val (.bool (decide (seq < 0) || decide (seq > q))))]) (h1 := fun _ => [(b, .cells #[.int .i64 fm, .int .i64 to, .int .i64 sh, .int .i64 q, .int .i64 t, .slice a k cc] 86 (0, 0)), (nu1 0, .cells #[.int .i64 seq] 3 (0, 0))]) (p1 := fun _ => []) (W1 := []) (by kernel_rfl) (fun _ => by kernel_rfl) (fun _ => trivial) (fun _ => ?_)
  refine J_cond (t := decide (seq < 0) || decide (seq > q)) (by kernel_rfl) (by kernel_rfl) (fun hb => ?_) (fun hb => ?_)
  · have e1 : ackErr q seq = 2 := by rw [ackErr, if_pos (by simp at hb; omega)]
    have e2 : ackL q seq L = L := by rw [ackL, if_neg (by rw [e1]; decide)]
    rw [e1, e2]
    refine J_seq ?_
    refine J_reg mixed [.rd 0 [.r 0 (some (.iface 168 (.pointer (some (er 2)))))] 0 0, .rd 1 [] 0 0] [] [0, 3, 4] (E1 := fun _ => [(0, .val (.pointer (some (⟨b, 0, none⟩)))), (3, .val (.pointer (some (⟨nu1 0, 0, none⟩)))), (4, .val (.iface 168 (.pointer (some (er 2)))))]) (h1 := fun _ => [(b, .cells #[.int .i64 fm, .int .i64 to, .int .i64 sh, .int .i64 q, .int .i64 t, .slice a k cc] 86 (0, 0)), (nu1 0, .cells #[.int .i64 seq] 3 (0, 0))]) (p1 := fun _ => [csg1[(0 : Nat)]? = some (Value.iface (168 : Nat) (Value.pointer (some (er (2 : Nat)))))]) (W1 := []) (by kernel_rfl) (fun _ => by kernel_rfl) (fun _ => ⟨hglob1, trivial⟩) (fun _ => ?_)
    refine J_return [[]] (.iface 168 (.pointer (some (er 2)))) (by kernel_rfl) (fun a w s => ?_)
    exact ⟨_, _, _, _, (s.hide 0 rfl).ret (by simp) [1, 0] [] rfl rfl, .inr ⟨by decide, rfl⟩⟩
  · have e1 : ackErr q seq = 0 := by rw [ackErr, if_neg (by simp at hb; omega)]
    have e2 : ackL q seq L = keepL L seq := by rw [ackL, if_pos e1]
    rw [e1, e2]
    refine J_skip ?_
    refine J_seq ?_
    refine J_share 1 rfl ?_
    refine J_stp (stp_fact (v := .pointer (some ⟨nu1 0, 0, none⟩)) (d := .ptr [.v (.int .i64 seq)]) fun w S H => obj_ptr (H _ (List.mem_of_getElem? (i := 2) rfl)) rfl) ?_
    try simp only [List.cons_append, List.nil_append, List.append_nil]
    refine JR_begin mixed [(0, true), (1, true), (2, true), (3, true), (4, true), (5, true), (6, false), (7, true), (8, true), (9, false)] [] (by kernel_rfl) (by kernel_rfl) ?_
    refine JR_run (id := 3) (rest := [(6, false), (7, true), (8, true), (9, false)]) [.rd 0 [] 0 0, .rd 1 [] 0 0, .rd 2 [] 0 0, .rd 3 [] 0 0, .rd 4 [.o 0 none] 0 0, .rd 5 [] 0 0] [4, 16, 20, 21] (E1 := fun _ => [(4, .val (.nilIface)), (16, .val (.pointer (some (⟨b, 0, none⟩)))), (20, .val (.slice a k cc)), (21, .val (.func (.func 36) #[] #[.pointer (some (⟨nu1 0, 0, none⟩))]))]) (h1 := fun _ => [(b, .cells #[.int .i64 fm, .int .i64 to, .int .i64 sh, .int .i64 q, .int .i64 t, .slice a k cc] 86 (0, 0))]) (p1 := fun _ => []) (W1 := []) (fun _ => by kernel_rfl) (fun _ => trivial) (fun _ => ?_)
    refine JR_call [] [0] 35 #[.slice a k cc, .func (.func 36) #[] #[.pointer (some (⟨nu1 0, 0, none⟩))]] (some 22) (by kernel_rfl) (by kernel_rfl) (by decide) (fun w S M hP hG _ => ?_)
    refine (deleteAck hP hL (hG.at 3 rfl)).mono ?_
    rintro e3 w3 ⟨a', n', c', hR⟩
    refine ⟨_, _, _, hR, ?_⟩
    try simp only [List.cons_append, List.nil_append, List.append_nil]
    refine JR_run (id := 3) (rest := []) [.rd 7 [] 0 0, .rd 8 [] 0 0, .wr 9 [.o 0 none] 0] [4] (E1 := fun _ => [(4, .val (.nilIface))]) (h1 := fun _ => [(b, .cells #[.int .i64 fm, .int .i64 to, .int .i64 sh, .int .i64 q, .int .i64 t, .slice a' n' c'] 86 (0, 0))]) (p1 := fun _ => []) (W1 := []) (fun _ => by kernel_rfl) (fun _ => trivial) (fun _ => ?_)
    try simp only [List.cons_append, List.nil_append, List.append_nil]
    refine JR_end ?_
    try simp only [List.cons_append, List.nil_append, List.append_nil]
    refine J_seq ?_
    try simp only [List.cons_append, List.nil_append, List.append_nil]
    refine J_reg mixed [.rd 0 [] 0 0] [] [4] (E1 := fun _ => [(4, .val (.nilIface))]) (h1 := fun _ => [(b, .cells #[.int .i64 fm, .int .i64 to, .int .i64 sh, .int .i64 q, .int .i64 t, .slice a' n' c'] 86 (0, 0))]) (p1 := fun _ => []) (W1 := []) (by kernel_rfl) (fun _ => by kernel_rfl) (fun _ => trivial) (fun _ => ?_)
    try simp only [List.cons_append, List.nil_append, List.append_nil]
    refine J_return [[]] (.nilIface) (by kernel_rfl) (fun a w s => ?_)
    exact ⟨_, _, _, _, (s.hide 0 rfl).ret (by simp) [1, 0] [] rfl rfl, .inl ⟨rfl, rfl⟩⟩

/-- An error as a value: plain, or with its place. -/
def FErrV (er : Nat → Addr) (f : FT) (v : Value) (G : List (Value × D)) : Prop :=
  (f.at' = -1 ∧ ErrIs 168 er f.code v ∧ G = []) ∨
  (1 ≤ f.code ∧ 0 ≤ f.at' ∧ ∃ pb, v = .iface 106 (.pointer (some ⟨pb, 0, none⟩)) ∧ G = [(.pointer (some ⟨pb, 0, none⟩), .ptr [.v (.int .i64 f.at'), .v (.iface 168 (.pointer (some (er f.code))))])])
def scomErr (c : ComT) (fm t : Int) : FT :=
  if (comFault c).code ≠ 0 then comFault c
  else if c.place ≠ fm then ⟨3, -1⟩
  else if c.when.getD c.place.toNat 0 ≤ t then ⟨9, -1⟩
  else ⟨0, -1⟩
theorem comFault_ok {c : ComT} (h : (comFault c).code = 0) : comFault c = ⟨0, -1⟩ ∧ 0 ≤ c.place ∧ c.place < c.when.length := by
  unfold comFault at h ⊢
  split at h
  · rename_i h1; exact absurd h h1
  rw [if_neg (by assumption)]
  split at h
  · cases h
  rw [if_neg (by assumption)]
  rename_i h2
  split at h
  · cases h
  rw [if_neg (by assumption)]
  split at h
  · cases h
  rw [if_neg (by assumption)]
  refine ⟨?_, by omega, by omega⟩
  obtain ⟨h3, h4⟩ := opsFault_from (l := c.ops) (places := c.when.length) c.ops.length 0 c.ops.length (Nat.zero_le _) fun j _ hj => by
    -- an error of some op shows
    have key : ∀ n k, (opsFault c.ops c.when.length n k).code = 0 → ∀ j, k ≤ j → j < k + n → opErrAt c.ops c.when.length j = 0 := by
      intro n
      induction n with
      | zero => intro k _ j h1 h2; omega
      | succ n ih =>
        intro k hk j h1 h2
        unfold opsFault at hk
        split at hk
        · rename_i h0
          rcases Nat.eq_or_lt_of_le h1 with rfl | hlt
          · exact h0
          · exact ih (k + 1) hk j hlt (by omega)
        · rename_i h0
          exact absurd hk h0
    exact key _ _ h j (Nat.zero_le _) (by omega)
  exact h3 (by omega)
theorem comFault_le (c : ComT) : (comFault c).code ≤ 12 := by
  unfold comFault
  split
  · unfold vecErr
    simp only
    split
    · omega
    · split <;> omega
  split
  · simp
  split
  · simp
  split
  · simp
  exact opsFault_code _ _ _ _
theorem scomErr_le (c : ComT) (fm t : Int) : (scomErr c fm t).code ≤ 12 := by
  unfold scomErr
  split
  · exact comFault_le c
  split
  · simp
  split <;> simp
abbrev zMsg : Value := .agg #[.int .i64 0, .int .i64 0, .int .i64 0, .int .i64 0, .int .i64 0, .bool false, .slice none 0 0, .int .i64 0, .slice none 0 0]
set_option maxHeartbeats 2000000 in
theorem scommit {w0 : World} {S : Nat → Prop} {M : List Nat} {er : Nat → Addr} {eb : Nat → Array Value × TypeId} {b : Nat} {fm to sh q t : Int} {a : Option Addr} {k cc : Nat} {L : List MsgT} {c : ComT} {a1 a2 : Option Addr} {n1 c1 n2 c2 : Nat} (hC : Rep w0 S .nilIface (dC er eb))
    (hP : Pre w0 S M [cObj b (sCells fm to sh q t (.slice a k cc)), cAcc (.slice a k cc) 37 9 (L.map eMsg)]) (h1 : Rep w0 S (.slice a1 n1 c1) (dInts c.when)) (h2 : Rep w0 S (.slice a2 n2 c2) (.sl 7 (c.ops.map eOp))) (hl1 : c.when.length ≤ 1000000) (hl2 : c.ops.length ≤ 1000000) (hl3 : ∀ o ∈ c.ops, o.dots.length ≤ 1000000)
    (hq0 : 0 ≤ q) (hq1 : q < 1000000) (hL : L.length < 1000000) :
    Calls Tryd.prog 24 #[.pointer (some ⟨b, 0, none⟩), .agg #[.slice a1 n1 c1, .int .i64 c.place, .slice a2 n2 c2]] w0 fun e w' =>
      ((scomErr c fm t).code ≠ 0 ∧ ∃ v G', Ret M w0 S w' e (.tuple #[zMsg, v]) [cObj b (sCells fm to sh q t (.slice a k cc)), cAcc (.slice a k cc) 37 9 (L.map eMsg)] G' ∧ FErrV er (scomErr c fm t) v G') ∨
      (scomErr c fm t = ⟨0, -1⟩ ∧ ∃ a' k' c' u1 d1 u2 d2,
      Ret M w0 S w' e (.tuple #[.agg #[.int .i64 fm, .int .i64 to, .int .i64 sh, .int .i64 (q + 1), .int .i64 (c.when.getD c.place.toNat 0), .bool false, .slice u1 n1 d1, .int .i64 c.place, .slice u2 n2 d2], .nilIface])
        [cObj b (sCells fm to sh (q + 1) (c.when.getD c.place.toNat 0) (.slice a' k' c')), cAcc (.slice a' k' c') 37 9 ((L ++ [(⟨fm, to, sh, q + 1, c.when.getD c.place.toNat 0, false, c⟩ : MsgT)]).map eMsg)] [(.slice u1 n1 d1, dInts c.when), (.slice u2 n2 d2, .sl 7 (c.ops.map eOp))]) := by
  obtain rfl := rep_ints_len h1
  refine en24 (args := [.pointer (some ⟨b, 0, none⟩), .agg #[.slice a1 c.when.length c1, .int .i64 c.place, .slice a2 n2 c2]]) (S := S) (C := [cObj b (sCells fm to sh q t (.slice a k cc)), cAcc (.slice a k cc) 37 9 (L.map eMsg)]) (G := [(_, dC er eb), (_, dInts c.when), (_, .sl 7 (c.ops.map eOp))]) (by kernel_rfl) hP (.cons hC (.cons h1 (.cons h2 (.nil _ _)))) ?_
  refine J_show 0 rfl ?_
  refine J_stp (stp_all 0 [2, 8] rfl rfl) ?_
  refine J_glob 3 rfl (fun csg1 tyg1 fzg1 hglob1 => ?_)
  refine J_glob 4 rfl (fun csg2 tyg2 fzg2 hglob2 => ?_)
  try simp only [List.cons_append, List.nil_append, List.append_nil]
  refine J_seq ?_
  refine J_reg mixed [.wr 0 [] 0, .wr 1 [] 0, .rd 2 [] 0 0] [] [0, 3, 4, 5] (E1 := fun nu1 => [(0, .val (.pointer (some (⟨b, 0, none⟩)))), (3, .val (.pointer (some (⟨nu1 0, 0, none⟩)))), (4, .val (.pointer (some (⟨nu1 1, 0, none⟩)))), (5, .val (.nilIface))]) (h1 := fun nu1 => [(b, .cells #[.int .i64 fm, .int .i64 to, .int .i64 sh, .int .i64 q, .int .i64 t, .slice a k cc] 86 (0, 0)), (nu1 0, .cells #[.slice a1 c.when.length c1, .int .i64 c.place, .slice a2 n2 c2] 35 (0, 0)), (nu1 1, .cells #[.int .i64 0, .int .i64 0, .int .i64 0, .int .i64 0, .int .i64 0, .bool false, .slice none 0 0, .int .i64 0, .slice none 0 0] 37 (0, 0))]) (p1 := fun nu1 => []) (W1 := []) (by kernel_rfl) (fun _ => by kernel_rfl) (fun _ => trivial) (fun nu1 => ?_)
  refine J_seq ?_
  refine J_seq ?_
  refine JR_begin mixed [(0, true), (1, false), (2, true)] [] (by kernel_rfl) (by kernel_rfl) ?_
  refine JR_run (id := 1) (rest := [(1, false), (2, true)]) [.rd 0 [.o 1 none, .o 1 none, .o 1 none] 0 0] [0, 3, 4, 5, 7] (E1 := fun _ => [(0, .val (.pointer (some (⟨b, 0, none⟩)))), (3, .val (.pointer (some (⟨nu1 0, 0, none⟩)))), (4, .val (.pointer (some (⟨nu1 1, 0, none⟩)))), (5, .val (.nilIface)), (7, .val (.agg #[.slice a1 c.when.length c1, .int .i64 c.place, .slice a2 n2 c2]))]) (h1 := fun _ => [(b, .cells #[.int .i64 fm, .int .i64 to, .int .i64 sh, .int .i64 q, .int .i64 t, .slice a k cc] 86 (0, 0)), (nu1 0, .cells #[.slice a1 c.when.length c1, .int .i64 c.place, .slice a2 n2 c2] 35 (0, 0)), (nu1 1, .cells #[.int .i64 0, .int .i64 0, .int .i64 0, .int .i64 0, .int .i64 0, .bool false, .slice none 0 0, .int .i64 0, .slice none 0 0] 37 (0, 0))]) (p1 := fun _ => []) (W1 := []) (fun _ => by kernel_rfl) (fun _ => trivial) (fun _ => ?_)
  refine JR_callp [] 38 #[.agg #[.slice a1 c.when.length c1, .int .i64 c.place, .slice a2 n2 c2]] (some 8) (by kernel_rfl) (fun w S hG => ?_)
  refine (checkCommit (c := c) (hG.at 0 rfl) (hG.at 1 rfl) (hG.at 2 rfl) hl1 hl2).mono ?_
  rintro e1 w1 (⟨hat, v, hR, hv⟩ | ⟨hc1, hc2, pb, hR⟩)
  · refine ⟨_, _, _, hR, ?_⟩
    obtain ⟨hc0, rfl⟩ | ⟨hc0, rfl⟩ := hv
    · obtain ⟨hcf, hp0, hp1⟩ := comFault_ok hc0
      try simp only [List.cons_append, List.nil_append, List.append_nil]
      refine JR_run (id := 1) (rest := []) [.rd 2 [] 0 0] [0, 3, 4, 5, 6] (E1 := fun _ => [(0, .val (.pointer (some (⟨b, 0, none⟩)))), (3, .val (.pointer (some (⟨nu1 0, 0, none⟩)))), (4, .val (.pointer (some (⟨nu1 1, 0, none⟩)))), (5, .val (.nilIface)), (6, .val (.nilIface))]) (h1 := fun _ => [(b, .cells #[.int .i64 fm, .int .i64 to, .int .i64 sh, .int .i64 q, .int .i64 t, .slice a k cc] 86 (0, 0)), (nu1 0, .cells #[.slice a1 c.when.length c1, .int .i64 c.place, .slice a2 n2 c2] 35 (0, 0)), (nu1 1, .cells #[.int .i64 0, .int .i64 0, .int .i64 0, .int .i64 0, .int .i64 0, .bool false, .slice none 0 0, .int .i64 0, .slice none 0 0] 37 (0, 0))]) (p1 := fun _ => []) (W1 := []) (fun _ => by kernel_rfl) (fun _ => trivial) (fun _ => ?_)
      refine JR_end ?_
      refine J_seq ?_
      refine J_reg mixed [.rd 0 [] 0 0, .rd 1 [] 0 0] [] [0, 3, 4, 5, 6, 10] (E1 := fun _ => [(0, .val (.pointer (some (⟨b, 0, none⟩)))), (3, .val (.pointer (some (⟨nu1 0, 0, none⟩)))), (4, .val (.pointer (some (⟨nu1 1, 0, none⟩)))), (5, .val (.nilIface)), (6, .val (.nilIface)), (10, .val (.bool false))]) (h1 := fun _ => [(b, .cells #[.int .i64 fm, .int .i64 to, .int .i64 sh, .int .i64 q, .int .i64 t, .slice a k cc] 86 (0, 0)), (nu1 0, .cells #[.slice a1 c.when.length c1, .int .i64 c.place, .slice a2 n2 c2] 35 (0, 0)), (nu1 1, .cells #[.int .i64 0, .int .i64 0, .int .i64 0, .int .i64 0, .int .i64 0, .bool false, .slice none 0 0, .int .i64 0, .slice none 0 0] 37 (0, 0))]) (p1 := fun _ => []) (W1 := []) (by kernel_rfl) (fun _ => by kernel_rfl) (fun _ => trivial) (fun _ => ?_)
      refine J_cond_f (by kernel_rfl) (by kernel_rfl) ?_
      refine J_skip ?_
      refine J_seq ?_
      refine J_seq ?_
      refine J_reg mixed [.rd 0 [] 0 0, .rd 1 [.o 1 none] 0 0, .rd 2 [] 0 0, .rd 3 [] 0 0, .rd 4 [] 0 0, .rd 5 [] 0 0, .rd 6 [.o 0 none] 0 0, .rd 7 [] 0 0] [] [0, 3, 4, 5, 20] (E1 := fun _ => [(0, .val (.pointer (some (⟨b, 0, none⟩)))), (3, .val (.pointer (some (⟨nu1 0, 0, none⟩)))), (4, .val (.pointer (some (⟨nu1 1, 0, none⟩)))), (5, .val (.nilIface)), (20, .val (.bool (c.place != fm)))]) (h1 := fun _ => [(b, .cells #[.int .i64 fm, .int .i64 to, .int .i64 sh, .int .i64 q, .int .i64 t, .slice a k cc] 86 (0, 0)), (nu1 0, .cells #[.slice a1 c.when.length c1, .int .i64 c.place, .slice a2 n2 c2] 35 (0, 0)), (nu1 1, .cells #[.int .i64 0, .int .i64 0, .int .i64 0, .int .i64 0, .int .i64 0, .bool false, .slice none 0 0, .int .i64 0, .slice none 0 0] 37 (0, 0))]) (p1 := fun _ => []) (W1 := []) (by kernel_rfl) (fun _ => by kernel_rfl) (fun _ => trivial) (fun _ => ?_)
      have hcc : ¬ ((comFault c).code ≠ 0) := by simp [hc0]
      refine J_cond (t := c.place != fm) (by kernel_rfl) (by kernel_rfl) (fun hpl => ?_) (fun hpl => ?_)
      · have e : scomErr c fm t = ⟨3, -1⟩ := by rw [scomErr, if_neg hcc, if_pos (by simpa using hpl)]
        rw [e]
        refine J_seq ?_
        refine J_reg mixed [.rd 0 [] 0 0, .rd 1 [.r 0 (some (.iface 168 (.pointer (some (er 3)))))] 0 0, .wr 2 [.o 2 none, .o 2 none, .o 2 none, .o 2 none, .o 2 none, .o 2 none, .o 2 none, .o 2 none, .o 2 none] 0, .rd 3 [] 0 0] [(2, [2])] [0, 3, 4, 5] (E1 := fun _ => [(0, .val (.pointer (some (⟨b, 0, none⟩)))), (3, .val (.pointer (some (⟨nu1 0, 0, none⟩)))), (4, .val (.pointer (some (⟨nu1 1, 0, none⟩)))), (5, .val (.iface 168 (.pointer (some (er 3)))))]) (h1 := fun _ => [(b, .cells #[.int .i64 fm, .int .i64 to, .int .i64 sh, .int .i64 q, .int .i64 t, .slice a k cc] 86 (0, 0)), (nu1 0, .cells #[.slice a1 c.when.length c1, .int .i64 c.place, .slice a2 n2 c2] 35 (0, 0)), (nu1 1, .cells #[.int .i64 0, .int .i64 0, .int .i64 0, .int .i64 0, .int .i64 0, .bool false, .slice none 0 0, .int .i64 0, .slice none 0 0] 37 (0, 0))]) (p1 := fun _ => [csg1[(0 : Nat)]? = some (Value.iface (168 : Nat) (Value.pointer (some (er (3 : Nat)))))]) (W1 := []) (by kernel_rfl) (fun _ => by kernel_rfl) (fun _ => ⟨hglob1, trivial⟩) (fun _ => ?_)
        refine J_return [[.o 2 none, .o 2 none, .o 2 none, .o 2 none, .o 2 none, .o 2 none, .o 2 none, .o 2 none, .o 2 none], []] (.tuple #[.agg #[.int .i64 0, .int .i64 0, .int .i64 0, .int .i64 0, .int .i64 0, .bool false, .slice none 0 0, .int .i64 0, .slice none 0 0], .iface 168 (.pointer (some (er 3)))]) (by kernel_rfl) (fun a w s => ?_)
        exact .inl ⟨by decide, _, _, (s.hide 0 rfl).ret (by simp) [1, 0] [] rfl rfl, .inl ⟨rfl, .inr ⟨by decide, rfl⟩, rfl⟩⟩
      have hpl2 : ¬ c.place ≠ fm := by simpa using hpl
      obtain ⟨t1, ht1⟩ : ∃ t1, c.when[c.place.toNat]? = some t1 := ⟨_, List.getElem?_eq_getElem (by omega)⟩
      have hgd : c.when.getD c.place.toNat 0 = t1 := by rw [List.getD_eq_getElem?_getD, ht1]; rfl
      rw [hgd]
      refine J_read0 1 rfl c.place.toNat (map_at ht1) (by kernel_rfl) (fun b1 off1 cs1 ty1 fz1 ha1 hrd1 => ?_)
      cases ha1
      have hrd1_0 := rd0 (hrd1 0 _ rfl)
      try simp only [List.cons_append, List.nil_append, List.append_nil]
      refine J_skip ?_
      refine J_seq ?_
      refine J_seq ?_
      refine J_reg mixed [.rd 0 [] 0 0, .rd 1 [.o 1 none] 0 0, .rd 2 [] 0 0, .rd 3 [.o 1 none] 0 0, .rd 4 [] 0 2, .rd 5 [.r 2 (some (.int .i64 t1))] 0 0, .rd 6 [] 0 0, .rd 7 [] 0 0, .rd 8 [] 0 0, .rd 9 [.o 0 none] 0 0, .rd 10 [] 0 0] [] [0, 3, 4, 5, 33] (E1 := fun _ => [(0, .val (.pointer (some (⟨b, 0, none⟩)))), (3, .val (.pointer (some (⟨nu1 0, 0, none⟩)))), (4, .val (.pointer (some (⟨nu1 1, 0, none⟩)))), (5, .val (.nilIface)), (33, .val (.bool (decide (t1 ≤ t))))]) (h1 := fun _ => [(b, .cells #[.int .i64 fm, .int .i64 to, .int .i64 sh, .int .i64 q, .int .i64 t, .slice a k cc] 86 (0, 0)), (nu1 0, .cells #[.slice (some (⟨b1, off1, none⟩)) c.when.length c1, .int .i64 c.place, .slice a2 n2 c2] 35 (0, 0)), (nu1 1, .cells #[.int .i64 0, .int .i64 0, .int .i64 0, .int .i64 0, .int .i64 0, .bool false, .slice none 0 0, .int .i64 0, .slice none 0 0] 37 (0, 0))]) (p1 := fun _ => [(0 : Int) ≤ c.place, c.place < (↑c.when.length : Int), cs1[off1 + c.place.toNat * (1 : Nat)]? = some (Value.int IntKind.i64 t1)]) (W1 := []) (by kernel_rfl) (fun _ => by kernel_rfl) (fun _ => ⟨hp0, hp1, hrd1_0, trivial⟩) (fun _ => ?_)
      refine J_cond (t := decide (t1 ≤ t)) (by kernel_rfl) (by kernel_rfl) (fun hold => ?_) (fun hold => ?_)
      · have e : scomErr c fm t = ⟨9, -1⟩ := by rw [scomErr, if_neg hcc, if_neg hpl2, hgd, if_pos (by simpa using hold)]
        rw [e]
        refine J_seq ?_
        refine J_reg mixed [.rd 0 [] 0 0, .rd 1 [.r 1 (some (.iface 168 (.pointer (some (er 9)))))] 0 0, .wr 2 [.o 2 none, .o 2 none, .o 2 none, .o 2 none, .o 2 none, .o 2 none, .o 2 none, .o 2 none, .o 2 none] 0, .rd 3 [] 0 0] [(2, [2])] [0, 3, 4, 5] (E1 := fun _ => [(0, .val (.pointer (some (⟨b, 0, none⟩)))), (3, .val (.pointer (some (⟨nu1 0, 0, none⟩)))), (4, .val (.pointer (some (⟨nu1 1, 0, none⟩)))), (5, .val (.iface 168 (.pointer (some (er 9)))))]) (h1 := fun _ => [(b, .cells #[.int .i64 fm, .int .i64 to, .int .i64 sh, .int .i64 q, .int .i64 t, .slice a k cc] 86 (0, 0)), (nu1 0, .cells #[.slice (some (⟨b1, off1, none⟩)) c.when.length c1, .int .i64 c.place, .slice a2 n2 c2] 35 (0, 0)), (nu1 1, .cells #[.int .i64 0, .int .i64 0, .int .i64 0, .int .i64 0, .int .i64 0, .bool false, .slice none 0 0, .int .i64 0, .slice none 0 0] 37 (0, 0))]) (p1 := fun _ => [csg2[(0 : Nat)]? = some (Value.iface (168 : Nat) (Value.pointer (some (er (9 : Nat)))))]) (W1 := []) (by kernel_rfl) (fun _ => by kernel_rfl) (fun _ => ⟨hglob2, trivial⟩) (fun _ => ?_)
        refine J_return [[.o 2 none, .o 2 none, .o 2 none, .o 2 none, .o 2 none, .o 2 none, .o 2 none, .o 2 none, .o 2 none], []] (.tuple #[.agg #[.int .i64 0, .int .i64 0, .int .i64 0, .int .i64 0, .int .i64 0, .bool false, .slice none 0 0, .int .i64 0, .slice none 0 0], .iface 168 (.pointer (some (er 9)))]) (by kernel_rfl) (fun a w s => ?_)
        exact .inl ⟨by decide, _, _, (s.hide 0 rfl).ret (by simp) [1, 0] [] rfl rfl, .inl ⟨rfl, .inr ⟨by decide, rfl⟩, rfl⟩⟩
      have e : scomErr c fm t = ⟨0, -1⟩ := by rw [scomErr, if_neg hcc, if_neg hpl2, hgd, if_neg (by simpa using hold)]
      refine J_skip ?_
      refine J_seq ?_
      refine J_hide 0 rfl ?_
      try simp only [List.cons_append, List.nil_append, List.append_nil]
      refine JR_begin mixed [(0, true), (1, true), (2, true), (3, true), (4, true), (5, true), (6, true), (7, true), (8, false), (9, false), (10, true)] [(8, []), (9, [1])] (by kernel_rfl) (by kernel_rfl) ?_
      refine JR_run (id := 8) (rest := [(8, false), (9, false), (10, true)]) [.rd 0 [] 0 0, .rd 1 [] 0 0, .rd 2 [.o 0 none] 0 0, .rd 3 [] 0 0, .rd 4 [.o 0 none] 0 0, .rd 5 [] 0 2, .rd 6 [.r 2 (some (.int .i64 t1))] 0 0, .rd 7 [.o 0 none, .o 0 none, .o 0 none] 0 0] [4, 5, 36, 42, 43] (E1 := fun _ => [(4, .val (.pointer (some (⟨nu1 1, 0, none⟩)))), (5, .val (.nilIface)), (36, .val (.pointer (some (⟨b, 0, none⟩)))), (42, .val (.int .i64 t1)), (43, .val (.agg #[.slice (some (⟨b1, off1, none⟩)) c.when.length c1, .int .i64 c.place, .slice a2 n2 c2]))]) (h1 := fun _ => [(nu1 0, .cells #[.slice (some (⟨b1, off1, none⟩)) c.when.length c1, .int .i64 c.place, .slice a2 n2 c2] 35 (0, 0)), (nu1 1, .cells #[.int .i64 0, .int .i64 0, .int .i64 0, .int .i64 0, .int .i64 0, .bool false, .slice none 0 0, .int .i64 0, .slice none 0 0] 37 (0, 0))]) (p1 := fun _ => [(0 : Int) ≤ c.place, c.place < (↑c.when.length : Int), cs1[off1 + c.place.toNat * (1 : Nat)]? = some (Value.int IntKind.i64 t1)]) (W1 := [(8, []), (9, [1])]) (fun _ => by kernel_rfl) (fun _ => ⟨hp0, hp1, hrd1_0, trivial⟩) (fun _ => ?_)
      refine JR_call [] [1, 0] 33 #[.pointer (some (⟨b, 0, none⟩)), .int .i64 t1, .agg #[.slice (some (⟨b1, off1, none⟩)) c.when.length c1, .int .i64 c.place, .slice a2 n2 c2], .bool false] (some 44) (by kernel_rfl) (by kernel_rfl) (by decide) (fun w S M hP hG _ => ?_)
      refine (snext (c := c) hP (hG.at 1 rfl) (hG.at 2 rfl) hl1 hl2 hl3 hq0 hq1 hL).mono ?_
      rintro e2 w2 ⟨a', k', c', u1, d1, u2, d2, hR⟩
      refine ⟨_, _, _, hR, ?_⟩
      try simp only [List.cons_append, List.nil_append, List.append_nil]
      refine JR_run (id := 8) (rest := []) [.wr 9 [.o 1 none, .o 1 none, .o 1 none, .o 1 none, .o 1 none, .o 1 none, .o 1 none, .o 1 none, .o 1 none] 0, .rd 10 [] 0 0] [4, 5] (E1 := fun _ => [(4, .val (.pointer (some (⟨nu1 1, 0, none⟩)))), (5, .val (.nilIface))]) (h1 := fun _ => [(nu1 0, .cells #[.slice (some (⟨b1, off1, none⟩)) c.when.length c1, .int .i64 c.place, .slice a2 n2 c2] 35 (0, 0)), (nu1 1, .cells #[.int .i64 fm, .int .i64 to, .int .i64 sh, .int .i64 (q + 1), .int .i64 t1, .bool false, .slice u1 c.when.length d1, .int .i64 c.place, .slice u2 n2 d2] 37 (0, 0))]) (p1 := fun _ => []) (W1 := []) (fun _ => by kernel_rfl) (fun _ => trivial) (fun _ => ?_)
      try simp only [List.cons_append, List.nil_append, List.append_nil]
      refine JR_end ?_
      try simp only [List.cons_append, List.nil_append, List.append_nil]
      refine J_return [[.o 1 none, .o 1 none, .o 1 none, .o 1 none, .o 1 none, .o 1 none, .o 1 none, .o 1 none, .o 1 none], []] (.tuple #[.agg #[.int .i64 fm, .int .i64 to, .int .i64 sh, .int .i64 (q + 1), .int .i64 t1, .bool false, .slice u1 c.when.length d1, .int .i64 c.place, .slice u2 n2 d2], .nilIface]) (by kernel_rfl) (fun a w s => ?_)
      exact .inr ⟨e, a', k', c', u1, d1, u2, d2, s.ret (by simp) [0, 1] [5, 6] rfl rfl⟩
    · have e : scomErr c fm t = comFault c := by rw [scomErr, if_pos hc0]
      rw [e]
      try simp only [List.cons_append, List.nil_append, List.append_nil]
      refine JR_run (id := 1) (rest := []) [.rd 2 [] 0 0] [0, 3, 4, 5, 6] (E1 := fun _ => [(0, .val (.pointer (some (⟨b, 0, none⟩)))), (3, .val (.pointer (some (⟨nu1 0, 0, none⟩)))), (4, .val (.pointer (some (⟨nu1 1, 0, none⟩)))), (5, .val (.nilIface)), (6, .val (.iface 168 (.pointer (some (er (comFault c).code)))))]) (h1 := fun _ => [(b, .cells #[.int .i64 fm, .int .i64 to, .int .i64 sh, .int .i64 q, .int .i64 t, .slice a k cc] 86 (0, 0)), (nu1 0, .cells #[.slice a1 c.when.length c1, .int .i64 c.place, .slice a2 n2 c2] 35 (0, 0)), (nu1 1, .cells #[.int .i64 0, .int .i64 0, .int .i64 0, .int .i64 0, .int .i64 0, .bool false, .slice none 0 0, .int .i64 0, .slice none 0 0] 37 (0, 0))]) (p1 := fun _ => []) (W1 := []) (fun _ => by kernel_rfl) (fun _ => trivial) (fun _ => ?_)
      refine JR_end ?_
      refine J_seq ?_
      refine J_reg mixed [.rd 0 [] 0 0, .rd 1 [] 0 0] [] [0, 3, 4, 5, 6, 10] (E1 := fun _ => [(0, .val (.pointer (some (⟨b, 0, none⟩)))), (3, .val (.pointer (some (⟨nu1 0, 0, none⟩)))), (4, .val (.pointer (some (⟨nu1 1, 0, none⟩)))), (5, .val (.nilIface)), (6, .val (.iface 168 (.pointer (some (er (comFault c).code))))), (10, .val (.bool true))]) (h1 := fun _ => [(b, .cells #[.int .i64 fm, .int .i64 to, .int .i64 sh, .int .i64 q, .int .i64 t, .slice a k cc] 86 (0, 0)), (nu1 0, .cells #[.slice a1 c.when.length c1, .int .i64 c.place, .slice a2 n2 c2] 35 (0, 0)), (nu1 1, .cells #[.int .i64 0, .int .i64 0, .int .i64 0, .int .i64 0, .int .i64 0, .bool false, .slice none 0 0, .int .i64 0, .slice none 0 0] 37 (0, 0))]) (p1 := fun _ => []) (W1 := []) (by kernel_rfl) (fun _ => by kernel_rfl) (fun _ => trivial) (fun _ => ?_)
      refine J_cond_t (by kernel_rfl) (by kernel_rfl) ?_
      refine J_seq ?_
      refine J_reg mixed [.rd 0 [] 0 0, .rd 1 [] 0 0, .wr 2 [.o 2 none, .o 2 none, .o 2 none, .o 2 none, .o 2 none, .o 2 none, .o 2 none, .o 2 none, .o 2 none] 0, .rd 3 [] 0 0] [(2, [2])] [0, 3, 4, 5] (E1 := fun _ => [(0, .val (.pointer (some (⟨b, 0, none⟩)))), (3, .val (.pointer (some (⟨nu1 0, 0, none⟩)))), (4, .val (.pointer (some (⟨nu1 1, 0, none⟩)))), (5, .val (.iface 168 (.pointer (some (er (comFault c).code)))))]) (h1 := fun _ => [(b, .cells #[.int .i64 fm, .int .i64 to, .int .i64 sh, .int .i64 q, .int .i64 t, .slice a k cc] 86 (0, 0)), (nu1 0, .cells #[.slice a1 c.when.length c1, .int .i64 c.place, .slice a2 n2 c2] 35 (0, 0)), (nu1 1, .cells #[.int .i64 0, .int .i64 0, .int .i64 0, .int .i64 0, .int .i64 0, .bool false, .slice none 0 0, .int .i64 0, .slice none 0 0] 37 (0, 0))]) (p1 := fun _ => []) (W1 := []) (by kernel_rfl) (fun _ => by kernel_rfl) (fun _ => trivial) (fun _ => ?_)
      refine J_return [[.o 2 none, .o 2 none, .o 2 none, .o 2 none, .o 2 none, .o 2 none, .o 2 none, .o 2 none, .o 2 none], []] (.tuple #[.agg #[.int .i64 0, .int .i64 0, .int .i64 0, .int .i64 0, .int .i64 0, .bool false, .slice none 0 0, .int .i64 0, .slice none 0 0], .iface 168 (.pointer (some (er (comFault c).code)))]) (by kernel_rfl) (fun a w s => ?_)
      exact .inl ⟨hc0, _, _, (s.hide 0 rfl).ret (by simp) [1, 0] [] rfl rfl, .inl ⟨hat, .inr ⟨hc0, rfl⟩, rfl⟩⟩
  · refine ⟨_, _, _, hR, ?_⟩
    have hc0 : (comFault c).code ≠ 0 := by omega
    have e : scomErr c fm t = comFault c := by rw [scomErr, if_pos hc0]
    rw [e]
    try simp only [List.cons_append, List.nil_append, List.append_nil]
    refine JR_run (id := 1) (rest := []) [.rd 2 [] 0 0] [0, 3, 4, 5, 6] (E1 := fun _ => [(0, .val (.pointer (some (⟨b, 0, none⟩)))), (3, .val (.pointer (some (⟨nu1 0, 0, none⟩)))), (4, .val (.pointer (some (⟨nu1 1, 0, none⟩)))), (5, .val (.nilIface)), (6, .val (.iface 106 (.pointer (some (⟨pb, 0, none⟩)))))]) (h1 := fun _ => [(b, .cells #[.int .i64 fm, .int .i64 to, .int .i64 sh, .int .i64 q, .int .i64 t, .slice a k cc] 86 (0, 0)), (nu1 0, .cells #[.slice a1 c.when.length c1, .int .i64 c.place, .slice a2 n2 c2] 35 (0, 0)), (nu1 1, .cells #[.int .i64 0, .int .i64 0, .int .i64 0, .int .i64 0, .int .i64 0, .bool false, .slice none 0 0, .int .i64 0, .slice none 0 0] 37 (0, 0))]) (p1 := fun _ => []) (W1 := []) (fun _ => by kernel_rfl) (fun _ => trivial) (fun _ => ?_)
    refine JR_end ?_
    refine J_seq ?_
    refine J_reg mixed [.rd 0 [] 0 0, .rd 1 [] 0 0] [] [0, 3, 4, 5, 6, 10] (E1 := fun _ => [(0, .val (.pointer (some (⟨b, 0, none⟩)))), (3, .val (.pointer (some (⟨nu1 0, 0, none⟩)))), (4, .val (.pointer (some (⟨nu1 1, 0, none⟩)))), (5, .val (.nilIface)), (6, .val (.iface 106 (.pointer (some (⟨pb, 0, none⟩))))), (10, .val (.bool true))]) (h1 := fun _ => [(b, .cells #[.int .i64 fm, .int .i64 to, .int .i64 sh, .int .i64 q, .int .i64 t, .slice a k cc] 86 (0, 0)), (nu1 0, .cells #[.slice a1 c.when.length c1, .int .i64 c.place, .slice a2 n2 c2] 35 (0, 0)), (nu1 1, .cells #[.int .i64 0, .int .i64 0, .int .i64 0, .int .i64 0, .int .i64 0, .bool false, .slice none 0 0, .int .i64 0, .slice none 0 0] 37 (0, 0))]) (p1 := fun _ => []) (W1 := []) (by kernel_rfl) (fun _ => by kernel_rfl) (fun _ => trivial) (fun _ => ?_)
    refine J_cond_t (by kernel_rfl) (by kernel_rfl) ?_
    refine J_seq ?_
    refine J_reg mixed [.rd 0 [] 0 0, .rd 1 [] 0 0, .wr 2 [.o 2 none, .o 2 none, .o 2 none, .o 2 none, .o 2 none, .o 2 none, .o 2 none, .o 2 none, .o 2 none] 0, .rd 3 [] 0 0] [(2, [2])] [0, 3, 4, 5] (E1 := fun _ => [(0, .val (.pointer (some (⟨b, 0, none⟩)))), (3, .val (.pointer (some (⟨nu1 0, 0, none⟩)))), (4, .val (.pointer (some (⟨nu1 1, 0, none⟩)))), (5, .val (.iface 106 (.pointer (some (⟨pb, 0, none⟩)))))]) (h1 := fun _ => [(b, .cells #[.int .i64 fm, .int .i64 to, .int .i64 sh, .int .i64 q, .int .i64 t, .slice a k cc] 86 (0, 0)), (nu1 0, .cells #[.slice a1 c.when.length c1, .int .i64 c.place, .slice a2 n2 c2] 35 (0, 0)), (nu1 1, .cells #[.int .i64 0, .int .i64 0, .int .i64 0, .int .i64 0, .int .i64 0, .bool false, .slice none 0 0, .int .i64 0, .slice none 0 0] 37 (0, 0))]) (p1 := fun _ => []) (W1 := []) (by kernel_rfl) (fun _ => by kernel_rfl) (fun _ => trivial) (fun _ => ?_)
    refine J_return [[.o 2 none, .o 2 none, .o 2 none, .o 2 none, .o 2 none, .o 2 none, .o 2 none, .o 2 none, .o 2 none], []] (.tuple #[.agg #[.int .i64 0, .int .i64 0, .int .i64 0, .int .i64 0, .int .i64 0, .bool false, .slice none 0 0, .int .i64 0, .slice none 0 0], .iface 106 (.pointer (some (⟨pb, 0, none⟩)))]) (by kernel_rfl) (fun a w s => ?_)
    exact .inl ⟨hc0, _, _, (s.hide 0 rfl).ret (by simp) [1, 0] [5] rfl rfl, .inr ⟨hc1, hc2, pb, rfl, rfl⟩⟩
end Go.Proofs.YtgelnbgjabpdbaaDoor
